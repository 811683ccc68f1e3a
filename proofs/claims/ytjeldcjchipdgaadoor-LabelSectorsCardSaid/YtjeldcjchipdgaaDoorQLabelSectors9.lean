import Derived.Test.YtjeldcjchipdgaaDoorQLabelSectors8
namespace Go.Proofs.YtjeldcjchipdgaaDoor
open Go.RowKit Go.HL
set_option maxRecDepth 100000

def zeroP : PtrV := ⟨0, 0, 0, ⟨#[]⟩⟩
def ptr4 (i0 i1 i2 i3 : Item) : PtrV := ⟨i0.n, i1.n, i2.n, i3.s⟩
def unpR (s : ByteArray) : PtrV × Int :=
  match decL s.data.toList with
  | [i0, i1, i2, i3] => if decE s.data.toList = 0 ∧ (i0.kind = 1 ∧ i1.kind = 1 ∧ i2.kind = 1 ∧ i3.kind = 2) ∧ rightP (ptr4 i0 i1 i2 i3) then (ptr4 i0 i1 i2 i3, 0) else (zeroP, 2)
  | _ => (zeroP, 2)
theorem unpR_four {s : ByteArray} {i0 i1 i2 i3 : Item} (h : decL s.data.toList = [i0, i1, i2, i3]) : unpR s = if decE s.data.toList = 0 ∧ (i0.kind = 1 ∧ i1.kind = 1 ∧ i2.kind = 1 ∧ i3.kind = 2) ∧ rightP (ptr4 i0 i1 i2 i3) then (ptr4 i0 i1 i2 i3, 0) else (zeroP, 2) := by
  unfold unpR
  rw [h]
theorem unpR_bad {s : ByteArray} (h : decE s.data.toList ≠ 0 ∨ (decL s.data.toList).length ≠ 4) : unpR s = (zeroP, 2) := by
  unfold unpR
  split
  · rename_i hl
    rcases h with h | h
    · rw [if_neg (fun x => h x.1)]
    · rw [hl] at h; exact absurd rfl h
  · rfl
theorem four {l : List Item} (h : l.length = 4) : ∃ i0 i1 i2 i3, l = [i0, i1, i2, i3] := by
  match l, h with
  | [a, b, c, d], _ => exact ⟨a, b, c, d, rfl⟩
theorem good1 {i : Item} (h : Good i) (k : i.kind = 1) : i = ⟨1, i.n, ⟨#[]⟩⟩ := by
  have h2 := h.2.1
  simp only [okI, decide_eq_true_eq] at h2
  obtain ⟨a, b, c⟩ := i
  simp only at k h2 ⊢
  subst k
  rcases h2 with ⟨_, rfl⟩ | ⟨h, _⟩
  · rfl
  · cases h
theorem good2 {i : Item} (h : Good i) (k : i.kind = 2) : i = ⟨2, 0, i.s⟩ := by
  have h2 := h.2.1
  simp only [okI, decide_eq_true_eq] at h2
  obtain ⟨a, b, c⟩ := i
  simp only at k h2 ⊢
  subst k
  rcases h2 with ⟨h, _⟩ | ⟨_, rfl⟩
  · cases h
  · rfl
theorem decE_items {b : List UInt8} (h : decE b = 0) : ∀ i ∈ decL b, Good i := (dec_spec b.length b (Nat.le_refl _) 0 (decL b) (by omega) (decE_zero h)).2.1
theorem four_wf {b : List UInt8} {i0 i1 i2 i3 : Item} (h : decE b = 0) (hL : decL b = [i0, i1, i2, i3]) : WfP (ptr4 i0 i1 i2 i3) := by
  have hg := decE_items h
  rw [hL] at hg
  exact ⟨(hg i0 (by simp)).2.2, (hg i1 (by simp)).2.2, (hg i2 (by simp)).2.2⟩
theorem unp_text {s : ByteArray} {i0 i1 i2 i3 : Item} (h0 : decE s.data.toList = 0) (hL : decL s.data.toList = [i0, i1, i2, i3]) (hr : rightP (ptr4 i0 i1 i2 i3)) : ptrS (ptr4 i0 i1 i2 i3) = s ↔ (i0.kind = 1 ∧ i1.kind = 1 ∧ i2.kind = 1 ∧ i3.kind = 2) := by
  have hg := decE_items h0
  have hw := four_wf h0 hL
  obtain ⟨he, hs⟩ := decE_good h0
  have hp := pit_check hr hw
  rw [hL] at hg hs he
  rw [ptrS, if_pos hr]
  constructor
  · intro h
    have h1 : encAll (pit (ptr4 i0 i1 i2 i3)) = encAll [i0, i1, i2, i3] := by rw [hs, ← h]
    have h2 := encAll_inj hp he (fun i hi => (pit_good hr hw i hi).2.2) (fun i hi => (hg i hi).2.2) h1
    simp only [pit, List.cons.injEq, and_true] at h2
    obtain ⟨e0, e1, e2, e3⟩ := h2
    refine ⟨?_, ?_, ?_, ?_⟩
    · rw [← e0]
    · rw [← e1]
    · rw [← e2]
    · rw [← e3]
  · rintro ⟨k0, k1, k2, k3⟩
    have h1 : pit (ptr4 i0 i1 i2 i3) = [i0, i1, i2, i3] := by
      have e0 := good1 (hg i0 (by simp)) k0
      have e1 := good1 (hg i1 (by simp)) k1
      have e2 := good1 (hg i2 (by simp)) k2
      have e3 := good2 (hg i3 (by simp)) k3
      simp only [pit, ptr4]
      rw [← e0, ← e1, ← e2, ← e3]
    rw [h1, hs]
theorem unp_ptr {p : PtrV} (hr : rightP p) (hw : WfP p) : unpR (ptrS p) = (p, 0) := by
  have e : (ptrS p).data.toList = encAll (pit p) := by rw [ptrS, if_pos hr]
  have hp := pit_check hr hw
  have hL : decL (ptrS p).data.toList = pit p := by rw [e]; exact decL_enc hp (fun i hi => (pit_good hr hw i hi).2.2)
  have hE : decE (ptrS p).data.toList = 0 := by rw [e]; exact decE_enc hp (fun i hi => (pit_good hr hw i hi).2.2)
  have h4 := unpR_four (s := ptrS p) (i0 := ⟨1, p.a, ⟨#[]⟩⟩) (i1 := ⟨1, p.z, ⟨#[]⟩⟩) (i2 := ⟨1, p.b, ⟨#[]⟩⟩) (i3 := ⟨2, 0, p.s⟩) hL
  rw [h4, if_pos ⟨hE, ⟨rfl, rfl, rfl, rfl⟩, hr⟩]
  rfl

theorem unptr_calls (s : ByteArray) (w : World) (hs : s.size ≤ 140737488351232) : Calls Tryd.prog 41 [.string s].toArray w (Ret fun v w' => v = .tuple #[.agg (ept.f (unpR s).1).toArray, vi (unpR s).2] ∧ Chg Nob w w') := by
  have kk := Chg.refl Nob w
  refine Calls.of_WC Tryd.func41 rfl Tryd.ntmps41 (by simp) ?_
  refine WC.seq (WC.region (?_))
  refine WL.alloc Tryd.zeroValue23 rfl ?_
  intro g_1 w_1 hge_1 hlt_1 hb_1 k_1
  have zs_k_1 := k_1.size
  replace kk := kk.pure k_1
  refine WL.assign rfl rfl (WL.nil (WX.then_normal (WC.seq (WC.region (WL.move rfl rfl (?_))))))
  refine WL.toBytes Tryd.underlying9 Tryd.underlying26 Tryd.underlying5 rfl (by omega) rfl ?_
  intro a_hb c_hb w_hb hb k_hb z_hb
  have zs_k_hb := k_hb.size
  replace kk := kk.pure k_hb
  replace hb_1 := hb_1.pure k_hb
  have hb2 := hb.rsl.old
  refine WL.call eg_70 rfl rfl (decode_calls' hb2 (by simpa using hs)) ?_
  rintro v w4 ⟨⟨ak, ck, rfl, hk⟩, k4⟩
  have zs_k4 := k4.size
  replace kk := kk.pure k4
  replace hb_1 := hb_1.pure k4
  replace hk := hk.lt
  refine WL.move rfl rfl (WL.extract rfl rfl rfl (WL.extract rfl rfl rfl (WL.assign rfl rfl (WL.assign rfl rfl (WL.nil (WX.then_normal (WC.seq (?_))))))))
  refine WC.seq (WC.region (WL.move rfl rfl (?_)))
  refine WL.neq? rfl rfl rfl (fun h16 => ?_) (fun h16 => ?_)
  ·
    refine WL.move rfl rfl (WL.pass rfl rfl rfl rfl (WL.pass rfl rfl rfl rfl (WL.pass rfl rfl rfl rfl (WL.pickT rfl rfl rfl (WL.move rfl rfl (WL.pass rfl rfl rfl rfl (WL.pass rfl rfl rfl rfl (?_))))))))
    refine WL.pass rfl rfl rfl rfl (WL.pass rfl rfl rfl rfl (WL.pass rfl rfl rfl rfl (WL.pickT rfl rfl rfl (WL.move rfl rfl (WL.pass rfl rfl rfl rfl (WL.pass rfl rfl rfl rfl (WL.pass rfl rfl rfl rfl (?_))))))))
    refine WL.pass rfl rfl rfl rfl (WL.pass rfl rfl rfl rfl (WL.pickT rfl rfl rfl (WL.move rfl rfl (WL.pass rfl rfl rfl rfl (WL.pass rfl rfl rfl rfl (WL.pass rfl rfl rfl rfl (WL.pass rfl rfl rfl rfl (?_))))))))
    refine WL.pass rfl rfl rfl rfl (WL.pickT rfl rfl rfl (WL.move rfl rfl (WL.pass rfl rfl rfl rfl (WL.pass rfl rfl rfl rfl (WL.pass rfl rfl rfl rfl (WL.pass rfl rfl rfl rfl (WL.pass rfl rfl rfl rfl (?_))))))))
    refine WL.pickT rfl rfl rfl (WL.nil (WX.then_normal (WC.cond_true rfl (WC.seq (WC.region (WL.bld rfl (bld_23_z) rfl (?_)))))))
    refine WL.stores Tryd.sizeOf23 hb_1 rfl rfl (by simp; done) (by simp [Value.oneCell']; done) (by simp [Value.cells]; done) rfl ?_
    intro w_2 hs_2 hn_2 k_2
    have zs_k_2 := k_2.size
    replace kk := kk.chg k_2 (by intro x h1 h2; have h3 : _ = _ := h2; exfalso; omega)
    replace hk := hk.chg k_2 (by intro b h1 h2 h3; have h4 : _ = _ := h3; (try dsimp only at h2); exfalso; omega)
    replace hb_1 := hn_2
    refine WL.assign rfl rfl (WL.nil (WX.then_normal (WC.ret (WX.then_ret (?_)))))
    refine WX.ret2c (.inl rfl) Tryd.results41 Tryd.isAgg23 Tryd.sizeOf23 hb_1 rfl (by rfl) rfl ?_
    first
      | (refine ⟨_, rfl, ?_, kk⟩
         rw [unpR_bad (by omega)]
         rfl)
      | (refine ⟨_, rfl, ?_, kk⟩
         rw [unpR_four hL, if_neg (by omega)]
         rfl)
      | (have hr : ¬ rightP (ptr4 i0 i1 i2 i3) := fun hr => h74 (by rw [ptrE, if_pos hr])
         refine ⟨_, rfl, ?_, kk⟩
         rw [unpR_four hL, if_neg (fun x => hr x.2.2)]
         rw [ptrE, if_neg hr]
         rfl)
      | (have hr : rightP (ptr4 i0 i1 i2 i3) := by
           by_cases hr : rightP (ptr4 i0 i1 i2 i3)
           ·
             exact hr
           ·
             rw [ptrE, if_neg hr] at h74; cases h74
         refine ⟨_, rfl, ?_, kk⟩
         rw [unpR_four hL, if_pos ⟨by omega, ⟨by omega, by omega, by omega, by omega⟩, hr⟩]
         rfl)
  ·
    refine WL.move rfl rfl (WL.want rfl rfl rfl (WL.move rfl rfl (WL.want rfl rfl rfl (WL.len Tryd.underlying76 rfl rfl (WL.want rfl rfl rfl (?_))))))
    refine WL.neq? rfl rfl rfl (fun h20 => ?_) (fun h20 => ?_)
    ·
      refine WL.pickF rfl rfl rfl (WL.move rfl rfl (WL.pass rfl rfl rfl rfl (WL.pass rfl rfl rfl rfl (WL.pass rfl rfl rfl rfl (WL.pass rfl rfl rfl rfl (WL.pass rfl rfl rfl rfl (WL.pickT rfl rfl rfl (?_))))))))
      refine WL.move rfl rfl (WL.pass rfl rfl rfl rfl (WL.pass rfl rfl rfl rfl (WL.pass rfl rfl rfl rfl (WL.pass rfl rfl rfl rfl (WL.pass rfl rfl rfl rfl (WL.pickT rfl rfl rfl (WL.move rfl rfl (?_))))))))
      refine WL.pass rfl rfl rfl rfl (WL.pass rfl rfl rfl rfl (WL.pass rfl rfl rfl rfl (WL.pass rfl rfl rfl rfl (WL.pass rfl rfl rfl rfl (WL.pickT rfl rfl rfl (WL.move rfl rfl (WL.pass rfl rfl rfl rfl (?_))))))))
      refine WL.pass rfl rfl rfl rfl (WL.pass rfl rfl rfl rfl (WL.pass rfl rfl rfl rfl (WL.pass rfl rfl rfl rfl (WL.pickT rfl rfl rfl (WL.nil (WX.then_normal (WC.cond_true rfl (?_))))))))
      refine WC.seq (WC.region (WL.bld rfl (bld_23_z) rfl (?_)))
      refine WL.stores Tryd.sizeOf23 hb_1 rfl rfl (by simp; done) (by simp [Value.oneCell']; done) (by simp [Value.cells]; done) rfl ?_
      intro w_2 hs_2 hn_2 k_2
      have zs_k_2 := k_2.size
      replace kk := kk.chg k_2 (by intro x h1 h2; have h3 : _ = _ := h2; exfalso; omega)
      replace hk := hk.chg k_2 (by intro b h1 h2 h3; have h4 : _ = _ := h3; (try dsimp only at h2); exfalso; omega)
      replace hb_1 := hn_2
      refine WL.assign rfl rfl (WL.nil (WX.then_normal (WC.ret (WX.then_ret (?_)))))
      refine WX.ret2c (.inl rfl) Tryd.results41 Tryd.isAgg23 Tryd.sizeOf23 hb_1 rfl (by rfl) rfl ?_
      first
        | (refine ⟨_, rfl, ?_, kk⟩
           rw [unpR_bad (by omega)]
           rfl)
        | (refine ⟨_, rfl, ?_, kk⟩
           rw [unpR_four hL, if_neg (by omega)]
           rfl)
        | (have hr : ¬ rightP (ptr4 i0 i1 i2 i3) := fun hr => h74 (by rw [ptrE, if_pos hr])
           refine ⟨_, rfl, ?_, kk⟩
           rw [unpR_four hL, if_neg (fun x => hr x.2.2)]
           rw [ptrE, if_neg hr]
           rfl)
        | (have hr : rightP (ptr4 i0 i1 i2 i3) := by
             by_cases hr : rightP (ptr4 i0 i1 i2 i3)
             ·
               exact hr
             ·
               rw [ptrE, if_neg hr] at h74; cases h74
           refine ⟨_, rfl, ?_, kk⟩
           rw [unpR_four hL, if_pos ⟨by omega, ⟨by omega, by omega, by omega, by omega⟩, hr⟩]
           rfl)
    ·
      refine WL.pickF rfl rfl rfl (WL.move rfl rfl (WL.want rfl rfl rfl (WL.move rfl rfl (WL.want rfl rfl rfl (?_)))))
      obtain ⟨i0, i1, i2, i3, hL⟩ := four (l := decL s.data.toList) (by omega)
      have hx0 : (decL s.data.toList)[0]? = some i0 := by rw [hL]; rfl
      have hx1 : (decL s.data.toList)[1]? = some i1 := by rw [hL]; rfl
      have hx2 : (decL s.data.toList)[2]? = some i2 := by rw [hL]; rfl
      have hx3 : (decL s.data.toList)[3]? = some i3 := by rw [hL]; rfl
      obtain ⟨bp, op, rfl⟩ := hk.rsl.place hx0
      refine WL.indexT Tryd.underlying76 Tryd.sizeOf75 hk.rsl rfl rfl ⟨hx0, rfl⟩ rfl ?_
      intro b_2 o_2 hc_2
      refine WL.want rfl rfl rfl (WL.fieldAddr (fld_75_0) rfl rfl (WL.want rfl rfl rfl (WL.load Tryd.isAgg3 rfl (hc_2 _ _ rfl) rfl (WL.want rfl rfl rfl (?_)))))
      refine WL.neq? rfl rfl rfl (fun h27 => ?_) (fun h27 => ?_)
      ·
        refine WL.pickF rfl rfl rfl (WL.move rfl rfl (WL.pass rfl rfl rfl rfl (WL.pass rfl rfl rfl rfl (WL.pass rfl rfl rfl rfl (WL.pass rfl rfl rfl rfl (WL.pass rfl rfl rfl rfl (WL.pickT rfl rfl rfl (?_))))))))
        refine WL.move rfl rfl (WL.pass rfl rfl rfl rfl (WL.pass rfl rfl rfl rfl (WL.pass rfl rfl rfl rfl (WL.pass rfl rfl rfl rfl (WL.pass rfl rfl rfl rfl (WL.pickT rfl rfl rfl (WL.move rfl rfl (?_))))))))
        refine WL.pass rfl rfl rfl rfl (WL.pass rfl rfl rfl rfl (WL.pass rfl rfl rfl rfl (WL.pass rfl rfl rfl rfl (WL.pass rfl rfl rfl rfl (WL.pickT rfl rfl rfl (WL.nil (WX.then_normal (?_))))))))
        refine WC.cond_true rfl (WC.seq (WC.region (WL.bld rfl (bld_23_z) rfl (?_))))
        refine WL.stores Tryd.sizeOf23 hb_1 rfl rfl (by simp; done) (by simp [Value.oneCell']; done) (by simp [Value.cells]; done) rfl ?_
        intro w_3 hs_3 hn_3 k_3
        have zs_k_3 := k_3.size
        replace kk := kk.chg k_3 (by intro x h1 h2; have h3 : _ = _ := h2; exfalso; omega)
        replace hk := hk.chg k_3 (by intro b h1 h2 h3; have h4 : _ = _ := h3; (try dsimp only at h2); exfalso; omega)
        replace hb_1 := hn_3
        refine WL.assign rfl rfl (WL.nil (WX.then_normal (WC.ret (WX.then_ret (?_)))))
        refine WX.ret2c (.inl rfl) Tryd.results41 Tryd.isAgg23 Tryd.sizeOf23 hb_1 rfl (by rfl) rfl ?_
        first
          | (refine ⟨_, rfl, ?_, kk⟩
             rw [unpR_bad (by omega)]
             rfl)
          | (refine ⟨_, rfl, ?_, kk⟩
             rw [unpR_four hL, if_neg (by omega)]
             rfl)
          | (have hr : ¬ rightP (ptr4 i0 i1 i2 i3) := fun hr => h74 (by rw [ptrE, if_pos hr])
             refine ⟨_, rfl, ?_, kk⟩
             rw [unpR_four hL, if_neg (fun x => hr x.2.2)]
             rw [ptrE, if_neg hr]
             rfl)
          | (have hr : rightP (ptr4 i0 i1 i2 i3) := by
               by_cases hr : rightP (ptr4 i0 i1 i2 i3)
               ·
                 exact hr
               ·
                 rw [ptrE, if_neg hr] at h74; cases h74
             refine ⟨_, rfl, ?_, kk⟩
             rw [unpR_four hL, if_pos ⟨by omega, ⟨by omega, by omega, by omega, by omega⟩, hr⟩]
             rfl)
      ·
        refine WL.pickF rfl rfl rfl (WL.move rfl rfl (WL.want rfl rfl rfl (WL.move rfl rfl (WL.want rfl rfl rfl (?_)))))
        refine WL.indexT Tryd.underlying76 Tryd.sizeOf75 hk.rsl rfl rfl ⟨hx1, rfl⟩ rfl ?_
        intro b_3 o_3 hc_3
        refine WL.want rfl rfl rfl (WL.fieldAddr (fld_75_0) rfl rfl (WL.want rfl rfl rfl (WL.load Tryd.isAgg3 rfl (hc_3 _ _ rfl) rfl (WL.want rfl rfl rfl (?_)))))
        refine WL.neq? rfl rfl rfl (fun h34 => ?_) (fun h34 => ?_)
        ·
          refine WL.pickF rfl rfl rfl (WL.move rfl rfl (WL.pass rfl rfl rfl rfl (WL.pass rfl rfl rfl rfl (WL.pass rfl rfl rfl rfl (WL.pass rfl rfl rfl rfl (WL.pass rfl rfl rfl rfl (WL.pickT rfl rfl rfl (?_))))))))
          refine WL.move rfl rfl (WL.pass rfl rfl rfl rfl (WL.pass rfl rfl rfl rfl (WL.pass rfl rfl rfl rfl (WL.pass rfl rfl rfl rfl (WL.pass rfl rfl rfl rfl (WL.pickT rfl rfl rfl (WL.nil (?_))))))))
          refine WX.then_normal (WC.cond_true rfl (WC.seq (WC.region (WL.bld rfl (bld_23_z) rfl (?_)))))
          refine WL.stores Tryd.sizeOf23 hb_1 rfl rfl (by simp; done) (by simp [Value.oneCell']; done) (by simp [Value.cells]; done) rfl ?_
          intro w_4 hs_4 hn_4 k_4
          have zs_k_4 := k_4.size
          replace kk := kk.chg k_4 (by intro x h1 h2; have h3 : _ = _ := h2; exfalso; omega)
          replace hk := hk.chg k_4 (by intro b h1 h2 h3; have h4 : _ = _ := h3; (try dsimp only at h2); exfalso; omega)
          replace hb_1 := hn_4
          refine WL.assign rfl rfl (WL.nil (WX.then_normal (WC.ret (WX.then_ret (?_)))))
          refine WX.ret2c (.inl rfl) Tryd.results41 Tryd.isAgg23 Tryd.sizeOf23 hb_1 rfl (by rfl) rfl ?_
          first
            | (refine ⟨_, rfl, ?_, kk⟩
               rw [unpR_bad (by omega)]
               rfl)
            | (refine ⟨_, rfl, ?_, kk⟩
               rw [unpR_four hL, if_neg (by omega)]
               rfl)
            | (have hr : ¬ rightP (ptr4 i0 i1 i2 i3) := fun hr => h74 (by rw [ptrE, if_pos hr])
               refine ⟨_, rfl, ?_, kk⟩
               rw [unpR_four hL, if_neg (fun x => hr x.2.2)]
               rw [ptrE, if_neg hr]
               rfl)
            | (have hr : rightP (ptr4 i0 i1 i2 i3) := by
                 by_cases hr : rightP (ptr4 i0 i1 i2 i3)
                 ·
                   exact hr
                 ·
                   rw [ptrE, if_neg hr] at h74; cases h74
               refine ⟨_, rfl, ?_, kk⟩
               rw [unpR_four hL, if_pos ⟨by omega, ⟨by omega, by omega, by omega, by omega⟩, hr⟩]
               rfl)
        ·
          refine WL.pickF rfl rfl rfl (WL.move rfl rfl (WL.want rfl rfl rfl (WL.move rfl rfl (WL.want rfl rfl rfl (?_)))))
          refine WL.indexT Tryd.underlying76 Tryd.sizeOf75 hk.rsl rfl rfl ⟨hx2, rfl⟩ rfl ?_
          intro b_4 o_4 hc_4
          refine WL.want rfl rfl rfl (WL.fieldAddr (fld_75_0) rfl rfl (WL.want rfl rfl rfl (WL.load Tryd.isAgg3 rfl (hc_4 _ _ rfl) rfl (WL.want rfl rfl rfl (?_)))))
          refine WL.neq? rfl rfl rfl (fun h41 => ?_) (fun h41 => ?_)
          ·
            refine WL.pickF rfl rfl rfl (WL.move rfl rfl (WL.pass rfl rfl rfl rfl (WL.pass rfl rfl rfl rfl (WL.pass rfl rfl rfl rfl (WL.pass rfl rfl rfl rfl (WL.pass rfl rfl rfl rfl (WL.pickT rfl rfl rfl (?_))))))))
            refine WL.nil (WX.then_normal (WC.cond_true rfl (WC.seq (WC.region (WL.bld rfl (bld_23_z) rfl (?_))))))
            refine WL.stores Tryd.sizeOf23 hb_1 rfl rfl (by simp; done) (by simp [Value.oneCell']; done) (by simp [Value.cells]; done) rfl ?_
            intro w_5 hs_5 hn_5 k_5
            have zs_k_5 := k_5.size
            replace kk := kk.chg k_5 (by intro x h1 h2; have h3 : _ = _ := h2; exfalso; omega)
            replace hk := hk.chg k_5 (by intro b h1 h2 h3; have h4 : _ = _ := h3; (try dsimp only at h2); exfalso; omega)
            replace hb_1 := hn_5
            refine WL.assign rfl rfl (WL.nil (WX.then_normal (WC.ret (WX.then_ret (?_)))))
            refine WX.ret2c (.inl rfl) Tryd.results41 Tryd.isAgg23 Tryd.sizeOf23 hb_1 rfl (by rfl) rfl ?_
            first
              | (refine ⟨_, rfl, ?_, kk⟩
                 rw [unpR_bad (by omega)]
                 rfl)
              | (refine ⟨_, rfl, ?_, kk⟩
                 rw [unpR_four hL, if_neg (by omega)]
                 rfl)
              | (have hr : ¬ rightP (ptr4 i0 i1 i2 i3) := fun hr => h74 (by rw [ptrE, if_pos hr])
                 refine ⟨_, rfl, ?_, kk⟩
                 rw [unpR_four hL, if_neg (fun x => hr x.2.2)]
                 rw [ptrE, if_neg hr]
                 rfl)
              | (have hr : rightP (ptr4 i0 i1 i2 i3) := by
                   by_cases hr : rightP (ptr4 i0 i1 i2 i3)
                   ·
                     exact hr
                   ·
                     rw [ptrE, if_neg hr] at h74; cases h74
                 refine ⟨_, rfl, ?_, kk⟩
                 rw [unpR_four hL, if_pos ⟨by omega, ⟨by omega, by omega, by omega, by omega⟩, hr⟩]
                 rfl)
          ·
            refine WL.pickF rfl rfl rfl (WL.move rfl rfl (WL.want rfl rfl rfl (WL.move rfl rfl (WL.want rfl rfl rfl (?_)))))
            refine WL.indexT Tryd.underlying76 Tryd.sizeOf75 hk.rsl rfl rfl ⟨hx3, rfl⟩ rfl ?_
            intro b_5 o_5 hc_5
            refine WL.want rfl rfl rfl (WL.fieldAddr (fld_75_0) rfl rfl (WL.want rfl rfl rfl (WL.load Tryd.isAgg3 rfl (hc_5 _ _ rfl) rfl (WL.want rfl rfl rfl (?_)))))
            refine WL.neq? rfl rfl rfl (fun h48 => ?_) (fun h48 => ?_)
            ·
              refine WL.pickF rfl rfl rfl (WL.nil (WX.then_normal (WC.cond_true rfl (WC.seq (WC.region (WL.bld rfl (bld_23_z) rfl (?_)))))))
              refine WL.stores Tryd.sizeOf23 hb_1 rfl rfl (by simp; done) (by simp [Value.oneCell']; done) (by simp [Value.cells]; done) rfl ?_
              intro w_6 hs_6 hn_6 k_6
              have zs_k_6 := k_6.size
              replace kk := kk.chg k_6 (by intro x h1 h2; have h3 : _ = _ := h2; exfalso; omega)
              replace hk := hk.chg k_6 (by intro b h1 h2 h3; have h4 : _ = _ := h3; (try dsimp only at h2); exfalso; omega)
              replace hb_1 := hn_6
              refine WL.assign rfl rfl (WL.nil (WX.then_normal (WC.ret (WX.then_ret (?_)))))
              refine WX.ret2c (.inl rfl) Tryd.results41 Tryd.isAgg23 Tryd.sizeOf23 hb_1 rfl (by rfl) rfl ?_
              first
                | (refine ⟨_, rfl, ?_, kk⟩
                   rw [unpR_bad (by omega)]
                   rfl)
                | (refine ⟨_, rfl, ?_, kk⟩
                   rw [unpR_four hL, if_neg (by omega)]
                   rfl)
                | (have hr : ¬ rightP (ptr4 i0 i1 i2 i3) := fun hr => h74 (by rw [ptrE, if_pos hr])
                   refine ⟨_, rfl, ?_, kk⟩
                   rw [unpR_four hL, if_neg (fun x => hr x.2.2)]
                   rw [ptrE, if_neg hr]
                   rfl)
                | (have hr : rightP (ptr4 i0 i1 i2 i3) := by
                     by_cases hr : rightP (ptr4 i0 i1 i2 i3)
                     ·
                       exact hr
                     ·
                       rw [ptrE, if_neg hr] at h74; cases h74
                   refine ⟨_, rfl, ?_, kk⟩
                   rw [unpR_four hL, if_pos ⟨by omega, ⟨by omega, by omega, by omega, by omega⟩, hr⟩]
                   rfl)
            ·
              refine WL.pickF rfl rfl rfl (WL.nil (WX.then_normal (WC.cond_false rfl (WC.skip (WX.then_normal (WC.seq (?_)))))))
              refine WC.draw (Nob) [0, 1, 2, 3, 4, 5, 6, 7, 8, 9, 10, 11, 12, 13, 14, 15, 16] [17, 18] mixed rfl rfl (fun wd_6 kd_6 zd_6 => ?_)
              have zs_kd_6 := kd_6.size
              replace kk := kk.pure kd_6
              replace hb_1 := hb_1.pure kd_6
              replace hk := hk.pure kd_6
              apply DQ.step (E' := [(4, _)])
              case ho => rfl
              case hs => exact ⟨rfl, trivial⟩
              case hk => rfl
              case h1 =>
                intro wq_8 kq_8
                refine WL.move rfl rfl (?_)
                refine WL.nil ?_
                exact WX.one ⟨rfl, by exact Chg.refl _ _⟩
              apply DQ.step (E' := [(51, _)])
              case ho => rfl
              case hs => exact ⟨rfl, trivial⟩
              case hk => rfl
              case h1 =>
                intro wq_9 kq_9
                have zs_kq_9 := kq_9.size
                replace kk := kk.pure kq_9
                replace hb_1 := hb_1.pure kq_9
                replace hk := hk.pure kq_9
                refine WL.indexC hk.rsl Tryd.underlying76 Tryd.sizeOf75 rfl rfl ⟨hx0, rfl⟩ rfl ?_
                refine WL.nil ?_
                exact WX.one ⟨rfl, by exact Chg.refl _ _⟩
              apply DQ.step (E' := [(52, _)])
              case ho => rfl
              case hs => exact ⟨rfl, trivial⟩
              case hk => rfl
              case h1 =>
                intro wq_10 kq_10
                refine WL.fieldAddr (fld_75_1) rfl rfl (?_)
                refine WL.nil ?_
                exact WX.one ⟨rfl, by exact Chg.refl _ _⟩
              apply DQ.step (E' := [(53, _)])
              case ho => rfl
              case hs => exact ⟨rfl, trivial⟩
              case hk => rfl
              case h1 =>
                intro wq_11 kq_11
                have zs_kq_11 := kq_11.size
                replace kk := kk.pure kq_11
                replace hb_1 := hb_1.pure kq_11
                replace hk := hk.pure kq_11
                refine WL.load Tryd.isAgg3 rfl ((hk.rsl.cellsAt hx0) _ _ rfl) rfl (?_)
                refine WL.nil ?_
                exact WX.one ⟨rfl, by exact Chg.refl _ _⟩
              apply DQ.step (E' := [(4, _)])
              case ho => rfl
              case hs => exact ⟨rfl, trivial⟩
              case hk => rfl
              case h1 =>
                intro wq_12 kq_12
                refine WL.move rfl rfl (?_)
                refine WL.nil ?_
                exact WX.one ⟨rfl, by exact Chg.refl _ _⟩
              apply DQ.step (E' := [(55, _)])
              case ho => rfl
              case hs => exact ⟨rfl, trivial⟩
              case hk => rfl
              case h1 =>
                intro wq_13 kq_13
                have zs_kq_13 := kq_13.size
                replace kk := kk.pure kq_13
                replace hb_1 := hb_1.pure kq_13
                replace hk := hk.pure kq_13
                refine WL.indexC hk.rsl Tryd.underlying76 Tryd.sizeOf75 rfl rfl ⟨hx1, rfl⟩ rfl ?_
                refine WL.nil ?_
                exact WX.one ⟨rfl, by exact Chg.refl _ _⟩
              apply DQ.step (E' := [(56, _)])
              case ho => rfl
              case hs => exact ⟨rfl, trivial⟩
              case hk => rfl
              case h1 =>
                intro wq_14 kq_14
                refine WL.fieldAddr (fld_75_1) rfl rfl (?_)
                refine WL.nil ?_
                exact WX.one ⟨rfl, by exact Chg.refl _ _⟩
              apply DQ.step (E' := [(57, _)])
              case ho => rfl
              case hs => exact ⟨rfl, trivial⟩
              case hk => rfl
              case h1 =>
                intro wq_15 kq_15
                have zs_kq_15 := kq_15.size
                replace kk := kk.pure kq_15
                replace hb_1 := hb_1.pure kq_15
                replace hk := hk.pure kq_15
                refine WL.load Tryd.isAgg3 rfl ((hk.rsl.cellsAt hx1) _ _ rfl) rfl (?_)
                refine WL.nil ?_
                exact WX.one ⟨rfl, by exact Chg.refl _ _⟩
              apply DQ.step (E' := [(4, _)])
              case ho => rfl
              case hs => exact ⟨rfl, trivial⟩
              case hk => rfl
              case h1 =>
                intro wq_16 kq_16
                refine WL.move rfl rfl (?_)
                refine WL.nil ?_
                exact WX.one ⟨rfl, by exact Chg.refl _ _⟩
              apply DQ.step (E' := [(59, _)])
              case ho => rfl
              case hs => exact ⟨rfl, trivial⟩
              case hk => rfl
              case h1 =>
                intro wq_17 kq_17
                have zs_kq_17 := kq_17.size
                replace kk := kk.pure kq_17
                replace hb_1 := hb_1.pure kq_17
                replace hk := hk.pure kq_17
                refine WL.indexC hk.rsl Tryd.underlying76 Tryd.sizeOf75 rfl rfl ⟨hx2, rfl⟩ rfl ?_
                refine WL.nil ?_
                exact WX.one ⟨rfl, by exact Chg.refl _ _⟩
              apply DQ.step (E' := [(60, _)])
              case ho => rfl
              case hs => exact ⟨rfl, trivial⟩
              case hk => rfl
              case h1 =>
                intro wq_18 kq_18
                refine WL.fieldAddr (fld_75_1) rfl rfl (?_)
                refine WL.nil ?_
                exact WX.one ⟨rfl, by exact Chg.refl _ _⟩
              apply DQ.step (E' := [(61, _)])
              case ho => rfl
              case hs => exact ⟨rfl, trivial⟩
              case hk => rfl
              case h1 =>
                intro wq_19 kq_19
                have zs_kq_19 := kq_19.size
                replace kk := kk.pure kq_19
                replace hb_1 := hb_1.pure kq_19
                replace hk := hk.pure kq_19
                refine WL.load Tryd.isAgg3 rfl ((hk.rsl.cellsAt hx2) _ _ rfl) rfl (?_)
                refine WL.nil ?_
                exact WX.one ⟨rfl, by exact Chg.refl _ _⟩
              apply DQ.step (E' := [(4, _)])
              case ho => rfl
              case hs => exact ⟨rfl, trivial⟩
              case hk => rfl
              case h1 =>
                intro wq_20 kq_20
                refine WL.move rfl rfl (?_)
                refine WL.nil ?_
                exact WX.one ⟨rfl, by exact Chg.refl _ _⟩
              apply DQ.step (E' := [(63, _)])
              case ho => rfl
              case hs => exact ⟨rfl, trivial⟩
              case hk => rfl
              case h1 =>
                intro wq_21 kq_21
                have zs_kq_21 := kq_21.size
                replace kk := kk.pure kq_21
                replace hb_1 := hb_1.pure kq_21
                replace hk := hk.pure kq_21
                refine WL.indexC hk.rsl Tryd.underlying76 Tryd.sizeOf75 rfl rfl ⟨hx3, rfl⟩ rfl ?_
                refine WL.nil ?_
                exact WX.one ⟨rfl, by exact Chg.refl _ _⟩
              apply DQ.step (E' := [(64, _)])
              case ho => rfl
              case hs => exact ⟨rfl, trivial⟩
              case hk => rfl
              case h1 =>
                intro wq_22 kq_22
                refine WL.fieldAddr (fld_75_2) rfl rfl (?_)
                refine WL.nil ?_
                exact WX.one ⟨rfl, by exact Chg.refl _ _⟩
              apply DQ.step (E' := [(65, _)])
              case ho => rfl
              case hs => exact ⟨rfl, trivial⟩
              case hk => rfl
              case h1 =>
                intro wq_23 kq_23
                have zs_kq_23 := kq_23.size
                replace kk := kk.pure kq_23
                replace hb_1 := hb_1.pure kq_23
                replace hk := hk.pure kq_23
                refine WL.load Tryd.isAgg9 rfl ((hk.rsl.cellsAt hx3) _ _ rfl) rfl (?_)
                refine WL.nil ?_
                exact WX.one ⟨rfl, by exact Chg.refl _ _⟩
              apply DQ.step (E' := [(54, _), (58, _), (62, _), (66, _)])
              case ho => rfl
              case hs => exact ⟨rfl, rfl, rfl, rfl, trivial⟩
              case hk => rfl
              case h1 =>
                intro wq_24 kq_24
                refine WL.bld rfl (bld_23_0_1_2_3 _ _ _ _) rfl (?_)
                refine WL.nil ?_
                exact WX.one ⟨rfl, by exact Chg.refl _ _⟩
              refine DQ.done (fun hd_7 => ?_)
              refine DL.step [] rfl trivial rfl (fun wq_25 kq_25 => ?_)
              have zs_kq_25 := kq_25.size
              replace kk := kk.pure kq_25
              replace hb_1 := hb_1.pure kq_25
              replace hk := hk.pure kq_25
              replace hd_7 := hd_7.pure kq_25
              refine WL.alloc Tryd.zeroValue23 rfl ?_
              intro g_26 w_26 hge_26 hlt_26 hb_26 k_26
              have zs_k_26 := k_26.size
              replace kk := kk.pure k_26
              replace hb_1 := hb_1.pure k_26
              replace hk := hk.pure k_26
              replace hd_7 := hd_7.pure k_26
              refine WL.nil ?_
              refine WX.one ⟨hd_7, ?_⟩
              refine DL.step [(6, _), (67, _)] rfl ⟨rfl, rfl, trivial⟩ rfl (fun wq_27 kq_27 => ?_)
              have zs_kq_27 := kq_27.size
              replace kk := kk.pure kq_27
              replace hb_1 := hb_1.pure kq_27
              replace hk := hk.pure kq_27
              replace hd_7 := hd_7.pure kq_27
              replace hb_26 := hb_26.pure kq_27
              refine WL.stores Tryd.sizeOf23 hb_26 rfl rfl (by simp; done) (by simp [Value.oneCell']; done) (by simp [Value.cells]; done) rfl ?_
              intro w_28 hs_28 hn_28 k_28
              have zs_k_28 := k_28.size
              replace kk := kk.chg k_28 (by intro x h1 h2; have h3 : _ = _ := h2; exfalso; omega)
              replace hb_1 := hb_1.chg k_28 (by intro h1; have h2 : _ = _ := h1; exfalso; omega)
              replace hk := hk.chg k_28 (by intro b h1 h2 h3; have h4 : _ = _ := h3; (try dsimp only at h2); exfalso; omega)
              replace hd_7 := hd_7.chg k_28 (by intro x h1 h2; have h3 : _ = _ := h2; exfalso; omega)
              replace hb_26 := hn_28
              refine WL.nil ?_
              refine WX.one0 (v := undef) ⟨hd_7, ?_⟩
              refine DL.done (fun we_29 ke_29 => ?_)
              have zs_ke_29 := ke_29.size
              replace kk := kk.pure ke_29
              replace hb_1 := hb_1.pure ke_29
              replace hk := hk.pure ke_29
              replace hd_7 := hd_7.pure ke_29
              replace hb_26 := hb_26.pure ke_29
              refine WX.then_normal (WC.seq (WC.seq (WC.region (WL.loadsB Tryd.isAgg23 Tryd.sizeOf23 hb_26 rfl (by rfl) rfl (?_)))))
              have hwf := four_wf (b := s.data.toList) (by omega) hL
              refine WL.call eg_36 rfl rfl (ptr_calls (ptr4 i0 i1 i2 i3) _ hwf) ?_
              rintro v w5 ⟨rfl, k5⟩
              have zs_k5 := k5.size
              replace kk := kk.pure k5
              replace hb_1 := hb_1.pure k5
              replace hk := hk.pure k5
              replace hb_26 := hb_26.pure k5
              refine WL.move rfl rfl (WL.extract rfl rfl rfl (WL.extract rfl rfl rfl (WL.assign rfl rfl (WL.assign rfl rfl (WL.nil (WX.then_normal (WC.seq (?_))))))))
              refine WC.region (WL.move rfl rfl (?_))
              refine WL.neq? rfl rfl rfl (fun h74 => ?_) (fun h74 => ?_)
              ·
                refine WL.nil (WX.then_normal (WC.cond_true rfl (WC.seq (WC.region (WL.bld rfl (bld_23_z) rfl (WL.move rfl rfl (?_)))))))
                refine WL.stores Tryd.sizeOf23 hb_1 rfl rfl (by simp; done) (by simp [Value.oneCell']; done) (by simp [Value.cells]; done) rfl ?_
                intro w_30 hs_30 hn_30 k_30
                have zs_k_30 := k_30.size
                replace kk := kk.chg k_30 (by intro x h1 h2; have h3 : _ = _ := h2; exfalso; omega)
                replace hk := hk.chg k_30 (by intro b h1 h2 h3; have h4 : _ = _ := h3; (try dsimp only at h2); exfalso; omega)
                replace hb_26 := hb_26.chg k_30 (by intro h1; have h2 : _ = _ := h1; exfalso; omega)
                replace hb_1 := hn_30
                refine WL.assign rfl rfl (WL.nil (WX.then_normal (WC.ret (WX.then_ret (?_)))))
                refine WX.ret2c (.inl rfl) Tryd.results41 Tryd.isAgg23 Tryd.sizeOf23 hb_1 rfl (by rfl) rfl ?_
                first
                  | (refine ⟨_, rfl, ?_, kk⟩
                     rw [unpR_bad (by omega)]
                     rfl)
                  | (refine ⟨_, rfl, ?_, kk⟩
                     rw [unpR_four hL, if_neg (by omega)]
                     rfl)
                  | (have hr : ¬ rightP (ptr4 i0 i1 i2 i3) := fun hr => h74 (by rw [ptrE, if_pos hr])
                     refine ⟨_, rfl, ?_, kk⟩
                     rw [unpR_four hL, if_neg (fun x => hr x.2.2)]
                     rw [ptrE, if_neg hr]
                     rfl)
                  | (have hr : rightP (ptr4 i0 i1 i2 i3) := by
                       by_cases hr : rightP (ptr4 i0 i1 i2 i3)
                       ·
                         exact hr
                       ·
                         rw [ptrE, if_neg hr] at h74; cases h74
                     refine ⟨_, rfl, ?_, kk⟩
                     rw [unpR_four hL, if_pos ⟨by omega, ⟨by omega, by omega, by omega, by omega⟩, hr⟩]
                     rfl)
              ·
                refine WL.nil (WX.then_normal (WC.cond_false rfl (WC.skip (WX.then_normal (WC.seq (WC.region (WL.loadsB Tryd.isAgg23 Tryd.sizeOf23 hb_26 rfl (by rfl) rfl (?_))))))))
                refine WL.stores Tryd.sizeOf23 hb_1 rfl rfl (by rfl) (by simp [Value.oneCell', Value.cells]; done) (by simp [Value.cells]; done) rfl ?_
                intro w_30 hs_30 hn_30 k_30
                have zs_k_30 := k_30.size
                replace kk := kk.chg k_30 (by intro x h1 h2; have h3 : _ = _ := h2; exfalso; omega)
                replace hk := hk.chg k_30 (by intro b h1 h2 h3; have h4 : _ = _ := h3; (try dsimp only at h2); exfalso; omega)
                replace hb_26 := hb_26.chg k_30 (by intro h1; have h2 : _ = _ := h1; exfalso; omega)
                replace hb_1 := hn_30
                refine WL.assign rfl rfl (WL.nil (WX.then_normal (WC.ret (?_))))
                refine WX.ret2c (.inl rfl) Tryd.results41 Tryd.isAgg23 Tryd.sizeOf23 hb_1 rfl (by rfl) rfl ?_
                first
                  | (refine ⟨_, rfl, ?_, kk⟩
                     rw [unpR_bad (by omega)]
                     rfl)
                  | (refine ⟨_, rfl, ?_, kk⟩
                     rw [unpR_four hL, if_neg (by omega)]
                     rfl)
                  | (have hr : ¬ rightP (ptr4 i0 i1 i2 i3) := fun hr => h74 (by rw [ptrE, if_pos hr])
                     refine ⟨_, rfl, ?_, kk⟩
                     rw [unpR_four hL, if_neg (fun x => hr x.2.2)]
                     rw [ptrE, if_neg hr]
                     rfl)
                  | (have hr : rightP (ptr4 i0 i1 i2 i3) := by
                       by_cases hr : rightP (ptr4 i0 i1 i2 i3)
                       ·
                         exact hr
                       ·
                         rw [ptrE, if_neg hr] at h74; cases h74
                     refine ⟨_, rfl, ?_, kk⟩
                     rw [unpR_four hL, if_pos ⟨by omega, ⟨by omega, by omega, by omega, by omega⟩, hr⟩]
                     rfl)
theorem docUnptr_calls (s : ByteArray) (w : World) (hs : s.size ≤ 140737488351232) : Calls Tryd.prog 39 [.string s].toArray w (Ret fun v w' => v = .tuple #[.agg (ept.f (unpR s).1).toArray, vi (unpR s).2] ∧ Chg Nob w w') := by
  have kk := Chg.refl Nob w
  refine Calls.of_WC Tryd.func39 rfl Tryd.ntmps39 (by simp) ?_
  refine WC.seq (WC.region (?_))
  refine WL.alloc Tryd.zeroValue23 rfl ?_
  intro g_1 w_1 hge_1 hlt_1 hb_1 k_1
  have zs_k_1 := k_1.size
  replace kk := kk.pure k_1
  refine WL.assign rfl rfl (WL.nil (WX.then_normal (WC.seq (WC.region (WL.move rfl rfl (?_))))))
  refine WL.call eg_67 rfl rfl (rdecode_calls hs) ?_
  rintro v w4 ⟨⟨ak, ck, rfl, hk⟩, k4⟩
  have zs_k4 := k4.size
  replace kk := kk.pure k4
  replace hb_1 := hb_1.pure k4
  replace hk := hk.lt
  refine WL.move rfl rfl (WL.extract rfl rfl rfl (WL.extract rfl rfl rfl (WL.assign rfl rfl (WL.assign rfl rfl (WL.nil (WX.then_normal (WC.seq (?_))))))))
  refine WC.seq (WC.region (WL.move rfl rfl (?_)))
  refine WL.neq? rfl rfl rfl (fun h14 => ?_) (fun h14 => ?_)
  ·
    refine WL.move rfl rfl (WL.pass rfl rfl rfl rfl (WL.pass rfl rfl rfl rfl (WL.pass rfl rfl rfl rfl (WL.pickT rfl rfl rfl (WL.nil (WX.then_normal (WC.cond_true rfl (?_))))))))
    refine WC.seq (WC.region (WL.bld rfl (bld_23_z) rfl (?_)))
    refine WL.stores Tryd.sizeOf23 hb_1 rfl rfl (by simp; done) (by simp [Value.oneCell']; done) (by simp [Value.cells]; done) rfl ?_
    intro w_2 hs_2 hn_2 k_2
    have zs_k_2 := k_2.size
    replace kk := kk.chg k_2 (by intro x h1 h2; have h3 : _ = _ := h2; exfalso; omega)
    replace hk := hk.chg k_2 (by intro b h1 h2 h3; have h4 : _ = _ := h3; (try dsimp only at h2); exfalso; omega)
    replace hb_1 := hn_2
    refine WL.assign rfl rfl (WL.nil (WX.then_normal (WC.ret (WX.then_ret (?_)))))
    refine WX.ret2c (.inl rfl) Tryd.results39 Tryd.isAgg23 Tryd.sizeOf23 hb_1 rfl (by rfl) rfl ?_
    first
      | (refine ⟨_, rfl, ?_, kk⟩
         rw [unpR_bad (by omega)]
         rfl)
      | (have hr : ¬ rightP (ptr4 i0 i1 i2 i3) := fun hr => h44 (by rw [ptrE, if_pos hr])
         refine ⟨_, rfl, ?_, kk⟩
         rw [unpR_four hL, if_neg (fun x => hr x.2.2)]
         rfl)
      | (have hr : rightP (ptr4 i0 i1 i2 i3) := by
           by_cases hr : rightP (ptr4 i0 i1 i2 i3)
           ·
             exact hr
           ·
             rw [ptrE, if_neg hr] at h44; cases h44
         have h0 : decE s.data.toList = 0 := by omega
         have ht := unp_text h0 hL hr
         refine ⟨_, rfl, ?_, kk⟩
         first
           | (rw [unpR_four hL, if_neg (fun x => h48 (ht.2 x.2.1))]
              rfl)
           | (rw [unpR_four hL, if_pos ⟨h0, ht.1 h48, hr⟩]
              rfl))
  ·
    refine WL.move rfl rfl (WL.want rfl rfl rfl (WL.move rfl rfl (WL.want rfl rfl rfl (WL.len Tryd.underlying76 rfl rfl (WL.want rfl rfl rfl (?_))))))
    refine WL.neq? rfl rfl rfl (fun h18 => ?_) (fun h18 => ?_)
    ·
      refine WL.pickF rfl rfl rfl (WL.nil (WX.then_normal (WC.cond_true rfl (WC.seq (WC.region (WL.bld rfl (bld_23_z) rfl (?_)))))))
      refine WL.stores Tryd.sizeOf23 hb_1 rfl rfl (by simp; done) (by simp [Value.oneCell']; done) (by simp [Value.cells]; done) rfl ?_
      intro w_2 hs_2 hn_2 k_2
      have zs_k_2 := k_2.size
      replace kk := kk.chg k_2 (by intro x h1 h2; have h3 : _ = _ := h2; exfalso; omega)
      replace hk := hk.chg k_2 (by intro b h1 h2 h3; have h4 : _ = _ := h3; (try dsimp only at h2); exfalso; omega)
      replace hb_1 := hn_2
      refine WL.assign rfl rfl (WL.nil (WX.then_normal (WC.ret (WX.then_ret (?_)))))
      refine WX.ret2c (.inl rfl) Tryd.results39 Tryd.isAgg23 Tryd.sizeOf23 hb_1 rfl (by rfl) rfl ?_
      first
        | (refine ⟨_, rfl, ?_, kk⟩
           rw [unpR_bad (by omega)]
           rfl)
        | (have hr : ¬ rightP (ptr4 i0 i1 i2 i3) := fun hr => h44 (by rw [ptrE, if_pos hr])
           refine ⟨_, rfl, ?_, kk⟩
           rw [unpR_four hL, if_neg (fun x => hr x.2.2)]
           rfl)
        | (have hr : rightP (ptr4 i0 i1 i2 i3) := by
             by_cases hr : rightP (ptr4 i0 i1 i2 i3)
             ·
               exact hr
             ·
               rw [ptrE, if_neg hr] at h44; cases h44
           have h0 : decE s.data.toList = 0 := by omega
           have ht := unp_text h0 hL hr
           refine ⟨_, rfl, ?_, kk⟩
           first
             | (rw [unpR_four hL, if_neg (fun x => h48 (ht.2 x.2.1))]
                rfl)
             | (rw [unpR_four hL, if_pos ⟨h0, ht.1 h48, hr⟩]
                rfl))
    ·
      refine WL.pickF rfl rfl rfl (WL.nil (WX.then_normal (WC.cond_false rfl (WC.skip (WX.then_normal (WC.seq (?_)))))))
      obtain ⟨i0, i1, i2, i3, hL⟩ := four (l := decL s.data.toList) (by omega)
      have hx0 : (decL s.data.toList)[0]? = some i0 := by rw [hL]; rfl
      have hx1 : (decL s.data.toList)[1]? = some i1 := by rw [hL]; rfl
      have hx2 : (decL s.data.toList)[2]? = some i2 := by rw [hL]; rfl
      have hx3 : (decL s.data.toList)[3]? = some i3 := by rw [hL]; rfl
      obtain ⟨bp, op, rfl⟩ := hk.rsl.place hx0
      refine WC.draw (Nob) [0, 1, 2, 3, 4, 5, 6, 7, 8, 9, 10, 11, 12, 13, 14, 15, 16] [17, 18] mixed rfl rfl (fun wd_2 kd_2 zd_2 => ?_)
      have zs_kd_2 := kd_2.size
      replace kk := kk.pure kd_2
      replace hb_1 := hb_1.pure kd_2
      replace hk := hk.pure kd_2
      apply DQ.step (E' := [(4, _)])
      case ho => rfl
      case hs => exact ⟨rfl, trivial⟩
      case hk => rfl
      case h1 =>
        intro wq_4 kq_4
        refine WL.move rfl rfl (?_)
        refine WL.nil ?_
        exact WX.one ⟨rfl, by exact Chg.refl _ _⟩
      apply DQ.step (E' := [(21, _)])
      case ho => rfl
      case hs => exact ⟨rfl, trivial⟩
      case hk => rfl
      case h1 =>
        intro wq_5 kq_5
        have zs_kq_5 := kq_5.size
        replace kk := kk.pure kq_5
        replace hb_1 := hb_1.pure kq_5
        replace hk := hk.pure kq_5
        refine WL.indexC hk.rsl Tryd.underlying76 Tryd.sizeOf75 rfl rfl ⟨hx0, rfl⟩ rfl ?_
        refine WL.nil ?_
        exact WX.one ⟨rfl, by exact Chg.refl _ _⟩
      apply DQ.step (E' := [(22, _)])
      case ho => rfl
      case hs => exact ⟨rfl, trivial⟩
      case hk => rfl
      case h1 =>
        intro wq_6 kq_6
        refine WL.fieldAddr (fld_75_1) rfl rfl (?_)
        refine WL.nil ?_
        exact WX.one ⟨rfl, by exact Chg.refl _ _⟩
      apply DQ.step (E' := [(23, _)])
      case ho => rfl
      case hs => exact ⟨rfl, trivial⟩
      case hk => rfl
      case h1 =>
        intro wq_7 kq_7
        have zs_kq_7 := kq_7.size
        replace kk := kk.pure kq_7
        replace hb_1 := hb_1.pure kq_7
        replace hk := hk.pure kq_7
        refine WL.load Tryd.isAgg3 rfl ((hk.rsl.cellsAt hx0) _ _ rfl) rfl (?_)
        refine WL.nil ?_
        exact WX.one ⟨rfl, by exact Chg.refl _ _⟩
      apply DQ.step (E' := [(4, _)])
      case ho => rfl
      case hs => exact ⟨rfl, trivial⟩
      case hk => rfl
      case h1 =>
        intro wq_8 kq_8
        refine WL.move rfl rfl (?_)
        refine WL.nil ?_
        exact WX.one ⟨rfl, by exact Chg.refl _ _⟩
      apply DQ.step (E' := [(25, _)])
      case ho => rfl
      case hs => exact ⟨rfl, trivial⟩
      case hk => rfl
      case h1 =>
        intro wq_9 kq_9
        have zs_kq_9 := kq_9.size
        replace kk := kk.pure kq_9
        replace hb_1 := hb_1.pure kq_9
        replace hk := hk.pure kq_9
        refine WL.indexC hk.rsl Tryd.underlying76 Tryd.sizeOf75 rfl rfl ⟨hx1, rfl⟩ rfl ?_
        refine WL.nil ?_
        exact WX.one ⟨rfl, by exact Chg.refl _ _⟩
      apply DQ.step (E' := [(26, _)])
      case ho => rfl
      case hs => exact ⟨rfl, trivial⟩
      case hk => rfl
      case h1 =>
        intro wq_10 kq_10
        refine WL.fieldAddr (fld_75_1) rfl rfl (?_)
        refine WL.nil ?_
        exact WX.one ⟨rfl, by exact Chg.refl _ _⟩
      apply DQ.step (E' := [(27, _)])
      case ho => rfl
      case hs => exact ⟨rfl, trivial⟩
      case hk => rfl
      case h1 =>
        intro wq_11 kq_11
        have zs_kq_11 := kq_11.size
        replace kk := kk.pure kq_11
        replace hb_1 := hb_1.pure kq_11
        replace hk := hk.pure kq_11
        refine WL.load Tryd.isAgg3 rfl ((hk.rsl.cellsAt hx1) _ _ rfl) rfl (?_)
        refine WL.nil ?_
        exact WX.one ⟨rfl, by exact Chg.refl _ _⟩
      apply DQ.step (E' := [(4, _)])
      case ho => rfl
      case hs => exact ⟨rfl, trivial⟩
      case hk => rfl
      case h1 =>
        intro wq_12 kq_12
        refine WL.move rfl rfl (?_)
        refine WL.nil ?_
        exact WX.one ⟨rfl, by exact Chg.refl _ _⟩
      apply DQ.step (E' := [(29, _)])
      case ho => rfl
      case hs => exact ⟨rfl, trivial⟩
      case hk => rfl
      case h1 =>
        intro wq_13 kq_13
        have zs_kq_13 := kq_13.size
        replace kk := kk.pure kq_13
        replace hb_1 := hb_1.pure kq_13
        replace hk := hk.pure kq_13
        refine WL.indexC hk.rsl Tryd.underlying76 Tryd.sizeOf75 rfl rfl ⟨hx2, rfl⟩ rfl ?_
        refine WL.nil ?_
        exact WX.one ⟨rfl, by exact Chg.refl _ _⟩
      apply DQ.step (E' := [(30, _)])
      case ho => rfl
      case hs => exact ⟨rfl, trivial⟩
      case hk => rfl
      case h1 =>
        intro wq_14 kq_14
        refine WL.fieldAddr (fld_75_1) rfl rfl (?_)
        refine WL.nil ?_
        exact WX.one ⟨rfl, by exact Chg.refl _ _⟩
      apply DQ.step (E' := [(31, _)])
      case ho => rfl
      case hs => exact ⟨rfl, trivial⟩
      case hk => rfl
      case h1 =>
        intro wq_15 kq_15
        have zs_kq_15 := kq_15.size
        replace kk := kk.pure kq_15
        replace hb_1 := hb_1.pure kq_15
        replace hk := hk.pure kq_15
        refine WL.load Tryd.isAgg3 rfl ((hk.rsl.cellsAt hx2) _ _ rfl) rfl (?_)
        refine WL.nil ?_
        exact WX.one ⟨rfl, by exact Chg.refl _ _⟩
      apply DQ.step (E' := [(4, _)])
      case ho => rfl
      case hs => exact ⟨rfl, trivial⟩
      case hk => rfl
      case h1 =>
        intro wq_16 kq_16
        refine WL.move rfl rfl (?_)
        refine WL.nil ?_
        exact WX.one ⟨rfl, by exact Chg.refl _ _⟩
      apply DQ.step (E' := [(33, _)])
      case ho => rfl
      case hs => exact ⟨rfl, trivial⟩
      case hk => rfl
      case h1 =>
        intro wq_17 kq_17
        have zs_kq_17 := kq_17.size
        replace kk := kk.pure kq_17
        replace hb_1 := hb_1.pure kq_17
        replace hk := hk.pure kq_17
        refine WL.indexC hk.rsl Tryd.underlying76 Tryd.sizeOf75 rfl rfl ⟨hx3, rfl⟩ rfl ?_
        refine WL.nil ?_
        exact WX.one ⟨rfl, by exact Chg.refl _ _⟩
      apply DQ.step (E' := [(34, _)])
      case ho => rfl
      case hs => exact ⟨rfl, trivial⟩
      case hk => rfl
      case h1 =>
        intro wq_18 kq_18
        refine WL.fieldAddr (fld_75_2) rfl rfl (?_)
        refine WL.nil ?_
        exact WX.one ⟨rfl, by exact Chg.refl _ _⟩
      apply DQ.step (E' := [(35, _)])
      case ho => rfl
      case hs => exact ⟨rfl, trivial⟩
      case hk => rfl
      case h1 =>
        intro wq_19 kq_19
        have zs_kq_19 := kq_19.size
        replace kk := kk.pure kq_19
        replace hb_1 := hb_1.pure kq_19
        replace hk := hk.pure kq_19
        refine WL.load Tryd.isAgg9 rfl ((hk.rsl.cellsAt hx3) _ _ rfl) rfl (?_)
        refine WL.nil ?_
        exact WX.one ⟨rfl, by exact Chg.refl _ _⟩
      apply DQ.step (E' := [(24, _), (28, _), (32, _), (36, _)])
      case ho => rfl
      case hs => exact ⟨rfl, rfl, rfl, rfl, trivial⟩
      case hk => rfl
      case h1 =>
        intro wq_20 kq_20
        refine WL.bld rfl (bld_23_0_1_2_3 _ _ _ _) rfl (?_)
        refine WL.nil ?_
        exact WX.one ⟨rfl, by exact Chg.refl _ _⟩
      refine DQ.done (fun hd_3 => ?_)
      refine DL.step [] rfl trivial rfl (fun wq_21 kq_21 => ?_)
      have zs_kq_21 := kq_21.size
      replace kk := kk.pure kq_21
      replace hb_1 := hb_1.pure kq_21
      replace hk := hk.pure kq_21
      replace hd_3 := hd_3.pure kq_21
      refine WL.alloc Tryd.zeroValue23 rfl ?_
      intro g_22 w_22 hge_22 hlt_22 hb_22 k_22
      have zs_k_22 := k_22.size
      replace kk := kk.pure k_22
      replace hb_1 := hb_1.pure k_22
      replace hk := hk.pure k_22
      replace hd_3 := hd_3.pure k_22
      refine WL.nil ?_
      refine WX.one ⟨hd_3, ?_⟩
      refine DL.step [(6, _), (37, _)] rfl ⟨rfl, rfl, trivial⟩ rfl (fun wq_23 kq_23 => ?_)
      have zs_kq_23 := kq_23.size
      replace kk := kk.pure kq_23
      replace hb_1 := hb_1.pure kq_23
      replace hk := hk.pure kq_23
      replace hd_3 := hd_3.pure kq_23
      replace hb_22 := hb_22.pure kq_23
      refine WL.stores Tryd.sizeOf23 hb_22 rfl rfl (by simp; done) (by simp [Value.oneCell']; done) (by simp [Value.cells]; done) rfl ?_
      intro w_24 hs_24 hn_24 k_24
      have zs_k_24 := k_24.size
      replace kk := kk.chg k_24 (by intro x h1 h2; have h3 : _ = _ := h2; exfalso; omega)
      replace hb_1 := hb_1.chg k_24 (by intro h1; have h2 : _ = _ := h1; exfalso; omega)
      replace hk := hk.chg k_24 (by intro b h1 h2 h3; have h4 : _ = _ := h3; (try dsimp only at h2); exfalso; omega)
      replace hd_3 := hd_3.chg k_24 (by intro x h1 h2; have h3 : _ = _ := h2; exfalso; omega)
      replace hb_22 := hn_24
      refine WL.nil ?_
      refine WX.one0 (v := undef) ⟨hd_3, ?_⟩
      refine DL.done (fun we_25 ke_25 => ?_)
      have zs_ke_25 := ke_25.size
      replace kk := kk.pure ke_25
      replace hb_1 := hb_1.pure ke_25
      replace hk := hk.pure ke_25
      replace hd_3 := hd_3.pure ke_25
      replace hb_22 := hb_22.pure ke_25
      refine WX.then_normal (WC.seq (WC.region (WL.loadsB Tryd.isAgg23 Tryd.sizeOf23 hb_22 rfl (by rfl) rfl (?_))))
      have hwf := four_wf (b := s.data.toList) (by omega) hL
      refine WL.call eg_34 rfl rfl (docPtr_calls (ptr4 i0 i1 i2 i3) _ hwf) ?_
      rintro v w5 ⟨rfl, k5⟩
      have zs_k5 := k5.size
      replace kk := kk.pure k5
      replace hb_1 := hb_1.pure k5
      replace hk := hk.pure k5
      replace hb_22 := hb_22.pure k5
      refine WL.move rfl rfl (WL.extract rfl rfl rfl (WL.extract rfl rfl rfl (WL.assign rfl rfl (WL.assign rfl rfl (WL.nil (WX.then_normal (WC.seq (?_))))))))
      refine WC.seq (WC.region (WL.move rfl rfl (?_)))
      refine WL.neq? rfl rfl rfl (fun h44 => ?_) (fun h44 => ?_)
      ·
        refine WL.move rfl rfl (WL.pass rfl rfl rfl rfl (WL.pass rfl rfl rfl rfl (WL.pass rfl rfl rfl rfl (WL.pickT rfl rfl rfl (WL.nil (WX.then_normal (WC.cond_true rfl (?_))))))))
        refine WC.seq (WC.region (WL.bld rfl (bld_23_z) rfl (?_)))
        refine WL.stores Tryd.sizeOf23 hb_1 rfl rfl (by simp; done) (by simp [Value.oneCell']; done) (by simp [Value.cells]; done) rfl ?_
        intro w_26 hs_26 hn_26 k_26
        have zs_k_26 := k_26.size
        replace kk := kk.chg k_26 (by intro x h1 h2; have h3 : _ = _ := h2; exfalso; omega)
        replace hk := hk.chg k_26 (by intro b h1 h2 h3; have h4 : _ = _ := h3; (try dsimp only at h2); exfalso; omega)
        replace hb_22 := hb_22.chg k_26 (by intro h1; have h2 : _ = _ := h1; exfalso; omega)
        replace hb_1 := hn_26
        refine WL.assign rfl rfl (WL.nil (WX.then_normal (WC.ret (WX.then_ret (?_)))))
        refine WX.ret2c (.inl rfl) Tryd.results39 Tryd.isAgg23 Tryd.sizeOf23 hb_1 rfl (by rfl) rfl ?_
        first
          | (refine ⟨_, rfl, ?_, kk⟩
             rw [unpR_bad (by omega)]
             rfl)
          | (have hr : ¬ rightP (ptr4 i0 i1 i2 i3) := fun hr => h44 (by rw [ptrE, if_pos hr])
             refine ⟨_, rfl, ?_, kk⟩
             rw [unpR_four hL, if_neg (fun x => hr x.2.2)]
             rfl)
          | (have hr : rightP (ptr4 i0 i1 i2 i3) := by
               by_cases hr : rightP (ptr4 i0 i1 i2 i3)
               ·
                 exact hr
               ·
                 rw [ptrE, if_neg hr] at h44; cases h44
             have h0 : decE s.data.toList = 0 := by omega
             have ht := unp_text h0 hL hr
             refine ⟨_, rfl, ?_, kk⟩
             first
               | (rw [unpR_four hL, if_neg (fun x => h48 (ht.2 x.2.1))]
                  rfl)
               | (rw [unpR_four hL, if_pos ⟨h0, ht.1 h48, hr⟩]
                  rfl))
      ·
        refine WL.move rfl rfl (WL.want rfl rfl rfl (WL.move rfl rfl (WL.want rfl rfl rfl (WL.move rfl rfl (WL.want rfl rfl rfl (?_))))))
        refine WL.sneq? rfl rfl rfl (fun h48 => ?_) (fun h48 => ?_)
        ·
          refine WL.pickF rfl rfl rfl (WL.nil (WX.then_normal (WC.cond_true rfl (WC.seq (WC.region (WL.bld rfl (bld_23_z) rfl (?_)))))))
          refine WL.stores Tryd.sizeOf23 hb_1 rfl rfl (by simp; done) (by simp [Value.oneCell']; done) (by simp [Value.cells]; done) rfl ?_
          intro w_26 hs_26 hn_26 k_26
          have zs_k_26 := k_26.size
          replace kk := kk.chg k_26 (by intro x h1 h2; have h3 : _ = _ := h2; exfalso; omega)
          replace hk := hk.chg k_26 (by intro b h1 h2 h3; have h4 : _ = _ := h3; (try dsimp only at h2); exfalso; omega)
          replace hb_22 := hb_22.chg k_26 (by intro h1; have h2 : _ = _ := h1; exfalso; omega)
          replace hb_1 := hn_26
          refine WL.assign rfl rfl (WL.nil (WX.then_normal (WC.ret (WX.then_ret (?_)))))
          refine WX.ret2c (.inl rfl) Tryd.results39 Tryd.isAgg23 Tryd.sizeOf23 hb_1 rfl (by rfl) rfl ?_
          first
            | (refine ⟨_, rfl, ?_, kk⟩
               rw [unpR_bad (by omega)]
               rfl)
            | (have hr : ¬ rightP (ptr4 i0 i1 i2 i3) := fun hr => h44 (by rw [ptrE, if_pos hr])
               refine ⟨_, rfl, ?_, kk⟩
               rw [unpR_four hL, if_neg (fun x => hr x.2.2)]
               rfl)
            | (have hr : rightP (ptr4 i0 i1 i2 i3) := by
                 by_cases hr : rightP (ptr4 i0 i1 i2 i3)
                 ·
                   exact hr
                 ·
                   rw [ptrE, if_neg hr] at h44; cases h44
               have h0 : decE s.data.toList = 0 := by omega
               have ht := unp_text h0 hL hr
               refine ⟨_, rfl, ?_, kk⟩
               first
                 | (rw [unpR_four hL, if_neg (fun x => h48 (ht.2 x.2.1))]
                    rfl)
                 | (rw [unpR_four hL, if_pos ⟨h0, ht.1 h48, hr⟩]
                    rfl))
        ·
          refine WL.pickF rfl rfl rfl (WL.nil (WX.then_normal (WC.cond_false rfl (WC.skip (WX.then_normal (WC.seq (WC.region (?_))))))))
          refine WL.loadsB Tryd.isAgg23 Tryd.sizeOf23 hb_22 rfl (by rfl) rfl (?_)
          refine WL.stores Tryd.sizeOf23 hb_1 rfl rfl (by rfl) (by simp [Value.oneCell', Value.cells]; done) (by simp [Value.cells]; done) rfl ?_
          intro w_26 hs_26 hn_26 k_26
          have zs_k_26 := k_26.size
          replace kk := kk.chg k_26 (by intro x h1 h2; have h3 : _ = _ := h2; exfalso; omega)
          replace hk := hk.chg k_26 (by intro b h1 h2 h3; have h4 : _ = _ := h3; (try dsimp only at h2); exfalso; omega)
          replace hb_22 := hb_22.chg k_26 (by intro h1; have h2 : _ = _ := h1; exfalso; omega)
          replace hb_1 := hn_26
          refine WL.assign rfl rfl (WL.nil (WX.then_normal (WC.ret (?_))))
          refine WX.ret2c (.inl rfl) Tryd.results39 Tryd.isAgg23 Tryd.sizeOf23 hb_1 rfl (by rfl) rfl ?_
          first
            | (refine ⟨_, rfl, ?_, kk⟩
               rw [unpR_bad (by omega)]
               rfl)
            | (have hr : ¬ rightP (ptr4 i0 i1 i2 i3) := fun hr => h44 (by rw [ptrE, if_pos hr])
               refine ⟨_, rfl, ?_, kk⟩
               rw [unpR_four hL, if_neg (fun x => hr x.2.2)]
               rfl)
            | (have hr : rightP (ptr4 i0 i1 i2 i3) := by
                 by_cases hr : rightP (ptr4 i0 i1 i2 i3)
                 ·
                   exact hr
                 ·
                   rw [ptrE, if_neg hr] at h44; cases h44
               have h0 : decE s.data.toList = 0 := by omega
               have ht := unp_text h0 hL hr
               refine ⟨_, rfl, ?_, kk⟩
               first
                 | (rw [unpR_four hL, if_neg (fun x => h48 (ht.2 x.2.1))]
                    rfl)
                 | (rw [unpR_four hL, if_pos ⟨h0, ht.1 h48, hr⟩]
                    rfl))
end Go.Proofs.YtjeldcjchipdgaaDoor
namespace Go.Proofs.YtjeldcjchipdgaaDoor
open Go.RowKit Go.HL
set_option maxRecDepth 100000

/-! the records of a label -/
structure UbV where
  t : Int
  p : PtrV
theorem UbV.eq_iff (u v : UbV) : (u.t = v.t ∧ u.p = v.p) ↔ u = v := by
  obtain ⟨a, b⟩ := u
  obtain ⟨c, d⟩ := v
  simp
instance : DecidableEq UbV := fun a b => decidable_of_iff _ (UbV.eq_iff a b)
def eub : Enc UbV := ⟨5, fun u => [vi u.t, vi u.p.a, vi u.p.z, vi u.p.b, .string u.p.s], fun _ => rfl, by simp [Value.oneCell'], by decide⟩
def WfU (u : UbV) : Prop := (-9223372036854775808 ≤ u.t ∧ u.t ≤ 9223372036854775807) ∧ WfP u.p
def uit (u : UbV) : List Item := [⟨1, 77, ⟨#[]⟩⟩, ⟨1, u.t, ⟨#[]⟩⟩, ⟨2, 0, ptrS u.p⟩]
/-- the sector of a record, and the error -/
def encB (u : UbV) : List UInt8 := if rightP u.p ∧ 1 ≤ u.t then secB (uit u) else []
def encE (u : UbV) : Int := if rightP u.p ∧ 1 ≤ u.t then secE (uit u) else 2
theorem uit_rit {u : UbV} (h : WfU u) : ∀ i ∈ uit u, RIt i := by
  intro i hi
  simp only [uit, List.mem_cons, List.not_mem_nil, or_false] at hi
  rcases hi with rfl | rfl | rfl
  · exact ⟨show (-9223372036854775808 : Int) ≤ 77 by decide, show (77 : Int) ≤ 9223372036854775807 by decide⟩
  · exact h.1
  · exact ⟨show (-9223372036854775808 : Int) ≤ 0 by decide, show (0 : Int) ≤ 9223372036854775807 by decide⟩
theorem ptrE_eq (p : PtrV) : ptrE p = 0 ↔ rightP p := by
  unfold ptrE
  split
  · rename_i h
    exact ⟨fun _ => h, fun _ => rfl⟩
  · rename_i h
    exact ⟨fun h1 => (absurd h1 (by decide)), fun h1 => absurd h1 h⟩
theorem encU_calls (u : UbV) (w : World) (hu : WfU u) : Calls Tryd.prog 12 [.agg (eub.f u).toArray].toArray w (Ret fun v w' => (∃ (ao : Option Addr) (c : Nat), v = .tuple #[.slice ao (encB u).length c, vi (encE u)] ∧ Row (w.heap.size ≤ ·) w' 5 eb ao c (encB u)) ∧ Chg Nob w w') := by
  have kk := Chg.refl Nob w
  refine Calls.of_WC Tryd.func12 rfl Tryd.ntmps12 (by simp) ?_
  refine WC.seq (WC.region (?_))
  refine WL.box rfl rfl ?_
  intro g_1 w_1 hge_1 hlt_1 hb_1 k_1
  have zs_k_1 := k_1.size
  replace kk := kk.pure k_1
  refine WL.assign rfl rfl (WL.assign rfl rfl (WL.nil (WX.then_normal (WC.seq (WC.region (WL.fieldAddr (fld_25_1) rfl rfl (?_)))))))
  have hb1 : Blk _ g_1 25 (eub.f u) := hb_1
  refine WL.loads (ept.f u.p) Tryd.isAgg23 Tryd.sizeOf23 rfl (fun j v hj => by rw [Nat.add_comm]; exact hb1.cell hj) rfl rfl ?_
  refine WL.call eg_36 rfl rfl (ptr_calls u.p _ hu.2) ?_
  rintro v w1 ⟨rfl, k1⟩
  have zs_k1 := k1.size
  replace kk := kk.pure k1
  replace hb1 := hb1.pure k1
  refine WL.move rfl rfl (WL.extract rfl rfl rfl (WL.extract rfl rfl rfl (WL.assign rfl rfl (WL.assign rfl rfl (WL.nil (WX.then_normal (WC.seq (?_))))))))
  refine WC.seq (WC.region (WL.move rfl rfl (?_)))
  refine WL.neq? rfl rfl rfl (fun h13 => ?_) (fun h13 => ?_)
  ·
    refine WL.move rfl rfl (WL.pass rfl rfl rfl rfl (WL.pass rfl rfl rfl rfl (WL.pass rfl rfl rfl rfl (WL.pickT rfl rfl rfl (WL.nil (WX.then_normal (WC.cond_true rfl (?_))))))))
    refine WC.seq (WC.region (WL.assign rfl rfl (WL.assign rfl rfl (WL.nil (WX.then_normal (WC.ret (WX.then_ret (?_))))))))
    refine WX.ret2 (.inl rfl) Tryd.results12 rfl rfl ?_
    by_cases hc : rightP u.p ∧ 1 ≤ u.t
    ·
      rw [encB, encE, if_pos hc, if_pos hc]
      first
        | (exact ⟨_, rfl, ⟨_, _, rfl, hx.mono (fun x hx => by omega)⟩, kk⟩)
        | (exfalso; exact h13 ((ptrE_eq _).2 hc.1))
        | (exfalso; have h5 := hc.2; omega)
    ·
      rw [encB, encE, if_neg hc, if_neg hc]
      first
        | (exact ⟨_, rfl, ⟨none, 0, rfl, Row.nil _ _ _ _⟩, kk⟩)
        | (exfalso; exact hc ⟨(ptrE_eq _).1 h13, by omega⟩)
  ·
    refine WL.move rfl rfl (WL.want rfl rfl rfl (WL.fieldAddr (fld_25_0) rfl rfl (WL.want rfl rfl rfl (WL.loadB Tryd.isAgg3 hb1 rfl rfl rfl (WL.want rfl rfl rfl (?_))))))
    refine WL.lss? rfl rfl rfl (fun h17 => ?_) (fun h17 => ?_)
    ·
      refine WL.pickF rfl rfl rfl (WL.nil (WX.then_normal (WC.cond_true rfl (WC.seq (WC.region (WL.assign rfl rfl (WL.assign rfl rfl (?_))))))))
      refine WL.nil (WX.then_normal (WC.ret (WX.then_ret (?_))))
      refine WX.ret2 (.inl rfl) Tryd.results12 rfl rfl ?_
      by_cases hc : rightP u.p ∧ 1 ≤ u.t
      ·
        rw [encB, encE, if_pos hc, if_pos hc]
        first
          | (exact ⟨_, rfl, ⟨_, _, rfl, hx.mono (fun x hx => by omega)⟩, kk⟩)
          | (exfalso; exact h13 ((ptrE_eq _).2 hc.1))
          | (exfalso; have h5 := hc.2; omega)
      ·
        rw [encB, encE, if_neg hc, if_neg hc]
        first
          | (exact ⟨_, rfl, ⟨none, 0, rfl, Row.nil _ _ _ _⟩, kk⟩)
          | (exfalso; exact hc ⟨(ptrE_eq _).1 h13, by omega⟩)
    ·
      refine WL.pickF rfl rfl rfl (WL.nil (WX.then_normal (WC.cond_false rfl (WC.skip (WX.then_normal (WC.seq (WC.region (?_))))))))
      refine WL.bld rfl (bld_75_0_1 _ _) rfl (WL.fieldAddr (fld_25_0) rfl rfl (WL.loadB Tryd.isAgg3 hb1 rfl rfl rfl (WL.bld rfl (bld_75_0_1 _ _) rfl (WL.move rfl rfl (WL.bld rfl (bld_75_0_2 _ _) rfl (?_))))))
      refine WL.build (e := eit) [⟨1, 77, ⟨#[]⟩⟩, ⟨1, u.t, ⟨#[]⟩⟩, ⟨2, 0, ptrS u.p⟩] Tryd.underlying76 Tryd.sizeOf75 Tryd.zeroValue75 rfl rfl rfl (by simp [Value.cells] <;> rfl) (by decide) rfl ?_
      intro a_ha w_ha ha l_ha z_ha k_ha
      have zs_k_ha := k_ha.size
      replace kk := kk.pure k_ha
      replace hb1 := hb1.pure k_ha
      have ha2 := ha.rsl.old
      refine WL.call eg_37 rfl rfl (sector_calls ha2 (by simp)) ?_
      rintro v w2 ⟨⟨ax, cx, rfl, hx⟩, k2⟩
      have zs_k2 := k2.size
      replace kk := kk.pure k2
      replace hb1 := hb1.pure k2
      replace ha := ha.pure k2
      replace hx := hx.lt
      refine WL.extract rfl rfl rfl (WL.extract rfl rfl rfl (WL.assign rfl rfl (WL.assign rfl rfl (WL.nil (WX.then_normal (WC.ret (?_)))))))
      refine WX.ret2 (.inl rfl) Tryd.results12 rfl rfl ?_
      by_cases hc : rightP u.p ∧ 1 ≤ u.t
      ·
        rw [encB, encE, if_pos hc, if_pos hc]
        first
          | (exact ⟨_, rfl, ⟨_, _, rfl, hx.mono (fun x hx => by omega)⟩, kk⟩)
          | (exfalso; exact h13 ((ptrE_eq _).2 hc.1))
          | (exfalso; have h5 := hc.2; omega)
      ·
        rw [encB, encE, if_neg hc, if_neg hc]
        first
          | (exact ⟨_, rfl, ⟨none, 0, rfl, Row.nil _ _ _ _⟩, kk⟩)
          | (exfalso; exact hc ⟨(ptrE_eq _).1 h13, by omega⟩)
def zeroU : UbV := ⟨0, zeroP⟩
/-- the record of a sector -/
def decU (b : List UInt8) : Option UbV :=
  match unS b with
  | some [i0, i1, i2] => if i0 = ⟨1, 77, ⟨#[]⟩⟩ ∧ i1.kind = 1 ∧ 1 ≤ i1.n ∧ i2.kind = 2 ∧ (unpR i2.s).2 = 0 then some ⟨i1.n, (unpR i2.s).1⟩ else none
  | _ => none
def decV (b : List UInt8) : UbV := (decU b).getD zeroU
def decEr (b : List UInt8) : Int := if (decU b).isSome then 0 else 2
theorem decU_no {b : List UInt8} (h : decU b = none) : decV b = zeroU ∧ decEr b = 2 := by
  rw [decV, decEr, h]
  exact ⟨rfl, rfl⟩
theorem decU_yes {b : List UInt8} {u : UbV} (h : decU b = some u) : decV b = u ∧ decEr b = 0 := by
  rw [decV, decEr, h]
  exact ⟨rfl, rfl⟩
theorem three_items {l : List Item} (h : l.length = 3) : ∃ i0 i1 i2, l = [i0, i1, i2] := by
  match l, h with
  | [a, b, c], _ => exact ⟨a, b, c, rfl⟩
theorem decU_three {b : List UInt8} {i0 i1 i2 : Item} (hE : unE b = 0) (hL : unL b = [i0, i1, i2]) : decU b = if i0 = ⟨1, 77, ⟨#[]⟩⟩ ∧ i1.kind = 1 ∧ 1 ≤ i1.n ∧ i2.kind = 2 ∧ (unpR i2.s).2 = 0 then some ⟨i1.n, (unpR i2.s).1⟩ else none := by
  cases h : unS b with
  | none =>
    rw [(un_none h).2] at hE
    cases hE
  | some l =>
    rw [(un_yes' h).1] at hL
    subst hL
    unfold decU
    rw [h]
theorem decU_bad {b : List UInt8} (h : unE b ≠ 0 ∨ (unL b).length ≠ 3) : decU b = none := by
  cases hu : unS b with
  | none => unfold decU; rw [hu]
  | some l =>
    obtain ⟨u1, u2⟩ := un_yes' hu
    rw [u1, u2] at h
    have h3 : l.length ≠ 3 := h.resolve_left (fun h4 => h4 rfl)
    unfold decU
    rw [hu]
    split
    · rename_i he
      injection he with he
      subst he
      exact absurd rfl h3
    · rfl
theorem un_good {b : List UInt8} : ∀ i ∈ unL b, Good i := by
  cases hu : unS b with
  | none => rw [(un_none hu).1]; intro i hi; cases hi
  | some l => rw [(un_yes' hu).1]; exact (un_parts hu).2.2.2.2.1
theorem unpR_err (s : ByteArray) : (unpR s).2 = 0 ∨ (unpR s).2 = 2 := by
  unfold unpR
  split
  · split
    · exact .inl rfl
    · exact .inr rfl
  · exact .inr rfl
theorem decU_calls {w : World} {ao : Option Addr} {c : Nat} {b : List UInt8} (hr : RSl (· < w.heap.size) w eb ao c b) (hl : b.length ≤ 140737488351232) :
    Calls Tryd.prog 14 [.slice ao b.length c].toArray w (Ret fun v w' => v = .tuple #[.agg (eub.f (decV b)).toArray, vi (decEr b)] ∧ Chg Nob w w') := by
  have kk := Chg.refl Nob w
  refine Calls.of_WC Tryd.func14 rfl Tryd.ntmps14 (by simp) ?_
  refine WC.seq (WC.region (?_))
  refine WL.alloc Tryd.zeroValue25 rfl ?_
  intro g_1 w_1 hge_1 hlt_1 hb_1 k_1
  have zs_k_1 := k_1.size
  replace hr := hr.pure k_1
  replace kk := kk.pure k_1
  refine WL.assign rfl rfl (WL.nil (WX.then_normal (WC.seq (WC.region (WL.move rfl rfl (?_))))))
  have hr1 := hr.old
  refine WL.call eg_40 rfl rfl (unsector_calls hr1 (by omega)) ?_
  rintro v w1 ⟨⟨a1, c1, rfl, hq⟩, k1⟩
  obtain ⟨L, eL⟩ : ∃ L, L = unL b := ⟨_, rfl⟩
  rw [← eL] at hq ⊢
  have zs_k1 := k1.size
  replace hr := hr.pure k1
  replace kk := kk.pure k1
  replace hb_1 := hb_1.pure k1
  replace hq := hq.lt
  refine WL.move rfl rfl (WL.extract rfl rfl rfl (WL.extract rfl rfl rfl (WL.assign rfl rfl (WL.assign rfl rfl (WL.nil (WX.then_normal (WC.seq (?_))))))))
  refine WC.seq (WC.region (WL.move rfl rfl (?_)))
  refine WL.neq? rfl rfl rfl (fun h13 => ?_) (fun h13 => ?_)
  ·
    refine WL.move rfl rfl (WL.pass rfl rfl rfl rfl (WL.pass rfl rfl rfl rfl (WL.pass rfl rfl rfl rfl (WL.pickT rfl rfl rfl (WL.move rfl rfl (WL.pass rfl rfl rfl rfl (WL.pass rfl rfl rfl rfl (?_))))))))
    refine WL.pass rfl rfl rfl rfl (WL.pass rfl rfl rfl rfl (WL.pass rfl rfl rfl rfl (WL.pickT rfl rfl rfl (WL.move rfl rfl (WL.pass rfl rfl rfl rfl (WL.pass rfl rfl rfl rfl (WL.pass rfl rfl rfl rfl (?_))))))))
    refine WL.pass rfl rfl rfl rfl (WL.pass rfl rfl rfl rfl (WL.pickT rfl rfl rfl (WL.move rfl rfl (WL.pass rfl rfl rfl rfl (WL.pass rfl rfl rfl rfl (WL.pass rfl rfl rfl rfl (WL.pass rfl rfl rfl rfl (?_))))))))
    refine WL.pass rfl rfl rfl rfl (WL.pickT rfl rfl rfl (WL.move rfl rfl (WL.pass rfl rfl rfl rfl (WL.pass rfl rfl rfl rfl (WL.pass rfl rfl rfl rfl (WL.pass rfl rfl rfl rfl (WL.pass rfl rfl rfl rfl (?_))))))))
    refine WL.pickT rfl rfl rfl (WL.nil (WX.then_normal (WC.cond_true rfl (WC.seq (WC.region (WL.bld rfl (bld_25_z) rfl (?_)))))))
    refine WL.stores Tryd.sizeOf25 hb_1 rfl rfl (by simp; done) (by simp [Value.oneCell']; done) (by simp [Value.cells]; done) rfl ?_
    intro w_2 hs_2 hn_2 k_2
    have zs_k_2 := k_2.size
    replace hr := hr.chg k_2 (by intro b h1 h2 h3; have h4 : _ = _ := h3; (try dsimp only at h2); exfalso; omega)
    replace kk := kk.chg k_2 (by intro x h1 h2; have h3 : _ = _ := h2; exfalso; omega)
    replace hq := hq.chg k_2 (by intro b h1 h2 h3; have h4 : _ = _ := h3; (try dsimp only at h2); exfalso; omega)
    replace hb_1 := hn_2
    refine WL.assign rfl rfl (WL.nil (WX.then_normal (WC.ret (WX.then_ret (?_)))))
    refine WX.ret2c (.inl rfl) Tryd.results14 Tryd.isAgg25 Tryd.sizeOf25 hb_1 rfl (by rfl) rfl ?_
    first
      | (have hz : unE b ≠ 0 := h13
         obtain ⟨e1, e2⟩ := decU_no (decU_bad (b := b) (.inl hz))
         rw [e1, e2]
         exact ⟨_, rfl, rfl, kk⟩)
      | (have hz : (L.length : Int) ≠ 3 := h17
         obtain ⟨e1, e2⟩ := decU_no (decU_bad (b := b) (.inr (fun h9 => hz (by rw [eL, h9]; rfl))))
         rw [e1, e2]
         exact ⟨_, rfl, rfl, kk⟩)
      | (have hz : unE b = 0 := h13
         have hz2 : L = [i0, i1, i2] := hL
         have hd := decU_three (b := b) hz (eL ▸ hz2)
         by_cases hc : i0 = ⟨1, 77, ⟨#[]⟩⟩ ∧ i1.kind = 1 ∧ 1 ≤ i1.n ∧ i2.kind = 2 ∧ (unpR i2.s).2 = 0
         ·
           rw [if_pos hc] at hd
           obtain ⟨e1, e2⟩ := decU_yes hd
           rw [e1, e2]
           obtain ⟨c1, c2, c3, c4, c5⟩ := hc
           first
             | (exact ⟨_, rfl, rfl, kk⟩)
             | (exfalso; omega)
             | (exfalso; first | exact absurd c1 (by assumption) | exact absurd c5 (by assumption))
         ·
           rw [if_neg hc] at hd
           obtain ⟨e1, e2⟩ := decU_no hd
           rw [e1, e2]
           first
             | (exact ⟨_, rfl, rfl, kk⟩)
             | (have h2 : (unpR i2.s).2 = 2 := (unpR_err _).resolve_left (by assumption)
                refine ⟨_, rfl, ?_, kk⟩
                rw [← h2]
                rfl)
             | (exfalso; exact hc ⟨by assumption, by omega, by omega, by omega, by assumption⟩))
  ·
    refine WL.move rfl rfl (WL.want rfl rfl rfl (WL.move rfl rfl (WL.want rfl rfl rfl (WL.len Tryd.underlying76 rfl rfl (WL.want rfl rfl rfl (?_))))))
    refine WL.neq? rfl rfl rfl (fun h17 => ?_) (fun h17 => ?_)
    ·
      refine WL.pickF rfl rfl rfl (WL.move rfl rfl (WL.pass rfl rfl rfl rfl (WL.pass rfl rfl rfl rfl (WL.pass rfl rfl rfl rfl (WL.pass rfl rfl rfl rfl (WL.pass rfl rfl rfl rfl (WL.pickT rfl rfl rfl (?_))))))))
      refine WL.move rfl rfl (WL.pass rfl rfl rfl rfl (WL.pass rfl rfl rfl rfl (WL.pass rfl rfl rfl rfl (WL.pass rfl rfl rfl rfl (WL.pass rfl rfl rfl rfl (WL.pickT rfl rfl rfl (WL.move rfl rfl (?_))))))))
      refine WL.pass rfl rfl rfl rfl (WL.pass rfl rfl rfl rfl (WL.pass rfl rfl rfl rfl (WL.pass rfl rfl rfl rfl (WL.pass rfl rfl rfl rfl (WL.pickT rfl rfl rfl (WL.move rfl rfl (WL.pass rfl rfl rfl rfl (?_))))))))
      refine WL.pass rfl rfl rfl rfl (WL.pass rfl rfl rfl rfl (WL.pass rfl rfl rfl rfl (WL.pass rfl rfl rfl rfl (WL.pickT rfl rfl rfl (WL.nil (WX.then_normal (WC.cond_true rfl (?_))))))))
      refine WC.seq (WC.region (WL.bld rfl (bld_25_z) rfl (?_)))
      refine WL.stores Tryd.sizeOf25 hb_1 rfl rfl (by simp; done) (by simp [Value.oneCell']; done) (by simp [Value.cells]; done) rfl ?_
      intro w_2 hs_2 hn_2 k_2
      have zs_k_2 := k_2.size
      replace hr := hr.chg k_2 (by intro b h1 h2 h3; have h4 : _ = _ := h3; (try dsimp only at h2); exfalso; omega)
      replace kk := kk.chg k_2 (by intro x h1 h2; have h3 : _ = _ := h2; exfalso; omega)
      replace hq := hq.chg k_2 (by intro b h1 h2 h3; have h4 : _ = _ := h3; (try dsimp only at h2); exfalso; omega)
      replace hb_1 := hn_2
      refine WL.assign rfl rfl (WL.nil (WX.then_normal (WC.ret (WX.then_ret (?_)))))
      refine WX.ret2c (.inl rfl) Tryd.results14 Tryd.isAgg25 Tryd.sizeOf25 hb_1 rfl (by rfl) rfl ?_
      first
        | (have hz : unE b ≠ 0 := h13
           obtain ⟨e1, e2⟩ := decU_no (decU_bad (b := b) (.inl hz))
           rw [e1, e2]
           exact ⟨_, rfl, rfl, kk⟩)
        | (have hz : (L.length : Int) ≠ 3 := h17
           obtain ⟨e1, e2⟩ := decU_no (decU_bad (b := b) (.inr (fun h9 => hz (by rw [eL, h9]; rfl))))
           rw [e1, e2]
           exact ⟨_, rfl, rfl, kk⟩)
        | (have hz : unE b = 0 := h13
           have hz2 : L = [i0, i1, i2] := hL
           have hd := decU_three (b := b) hz (eL ▸ hz2)
           by_cases hc : i0 = ⟨1, 77, ⟨#[]⟩⟩ ∧ i1.kind = 1 ∧ 1 ≤ i1.n ∧ i2.kind = 2 ∧ (unpR i2.s).2 = 0
           ·
             rw [if_pos hc] at hd
             obtain ⟨e1, e2⟩ := decU_yes hd
             rw [e1, e2]
             obtain ⟨c1, c2, c3, c4, c5⟩ := hc
             first
               | (exact ⟨_, rfl, rfl, kk⟩)
               | (exfalso; omega)
               | (exfalso; first | exact absurd c1 (by assumption) | exact absurd c5 (by assumption))
           ·
             rw [if_neg hc] at hd
             obtain ⟨e1, e2⟩ := decU_no hd
             rw [e1, e2]
             first
               | (exact ⟨_, rfl, rfl, kk⟩)
               | (have h2 : (unpR i2.s).2 = 2 := (unpR_err _).resolve_left (by assumption)
                  refine ⟨_, rfl, ?_, kk⟩
                  rw [← h2]
                  rfl)
               | (exfalso; exact hc ⟨by assumption, by omega, by omega, by omega, by assumption⟩))
    ·
      refine WL.pickF rfl rfl rfl (WL.move rfl rfl (WL.want rfl rfl rfl (WL.move rfl rfl (WL.want rfl rfl rfl (?_)))))
      obtain ⟨i0, i1, i2, hL⟩ := three_items (l := L) (by omega)
      have hi0 : L[0]? = some i0 := by rw [hL]; rfl
      have hi1 : L[1]? = some i1 := by rw [hL]; rfl
      have hi2 : L[2]? = some i2 := by rw [hL]; rfl
      refine WL.indexT Tryd.underlying76 Tryd.sizeOf75 hq.rsl rfl rfl ⟨hi0, rfl⟩ rfl ?_
      intro b_2 o_2 hc_2
      refine WL.want rfl rfl rfl (WL.loads _ Tryd.isAgg75 Tryd.sizeOf75 rfl hc_2 rfl rfl (WL.want rfl rfl rfl (WL.bld rfl (bld_75_0_1 _ _) rfl (WL.want rfl rfl rfl (?_)))))
      refine WL.aneq? eqg_item (eq_item _ ⟨1, 77, ⟨#[]⟩⟩) rfl rfl rfl (fun h24 => ?_) (fun h24 => ?_)
      ·
        refine WL.pickF rfl rfl rfl (WL.move rfl rfl (WL.pass rfl rfl rfl rfl (WL.pass rfl rfl rfl rfl (WL.pass rfl rfl rfl rfl (WL.pass rfl rfl rfl rfl (WL.pass rfl rfl rfl rfl (WL.pickT rfl rfl rfl (?_))))))))
        refine WL.move rfl rfl (WL.pass rfl rfl rfl rfl (WL.pass rfl rfl rfl rfl (WL.pass rfl rfl rfl rfl (WL.pass rfl rfl rfl rfl (WL.pass rfl rfl rfl rfl (WL.pickT rfl rfl rfl (WL.move rfl rfl (?_))))))))
        refine WL.pass rfl rfl rfl rfl (WL.pass rfl rfl rfl rfl (WL.pass rfl rfl rfl rfl (WL.pass rfl rfl rfl rfl (WL.pass rfl rfl rfl rfl (WL.pickT rfl rfl rfl (WL.nil (WX.then_normal (?_))))))))
        refine WC.cond_true rfl (WC.seq (WC.region (WL.bld rfl (bld_25_z) rfl (?_))))
        refine WL.stores Tryd.sizeOf25 hb_1 rfl rfl (by simp; done) (by simp [Value.oneCell']; done) (by simp [Value.cells]; done) rfl ?_
        intro w_3 hs_3 hn_3 k_3
        have zs_k_3 := k_3.size
        replace hr := hr.chg k_3 (by intro b h1 h2 h3; have h4 : _ = _ := h3; (try dsimp only at h2); exfalso; omega)
        replace kk := kk.chg k_3 (by intro x h1 h2; have h3 : _ = _ := h2; exfalso; omega)
        replace hq := hq.chg k_3 (by intro b h1 h2 h3; have h4 : _ = _ := h3; (try dsimp only at h2); exfalso; omega)
        replace hb_1 := hn_3
        refine WL.assign rfl rfl (WL.nil (WX.then_normal (WC.ret (WX.then_ret (?_)))))
        refine WX.ret2c (.inl rfl) Tryd.results14 Tryd.isAgg25 Tryd.sizeOf25 hb_1 rfl (by rfl) rfl ?_
        first
          | (have hz : unE b ≠ 0 := h13
             obtain ⟨e1, e2⟩ := decU_no (decU_bad (b := b) (.inl hz))
             rw [e1, e2]
             exact ⟨_, rfl, rfl, kk⟩)
          | (have hz : (L.length : Int) ≠ 3 := h17
             obtain ⟨e1, e2⟩ := decU_no (decU_bad (b := b) (.inr (fun h9 => hz (by rw [eL, h9]; rfl))))
             rw [e1, e2]
             exact ⟨_, rfl, rfl, kk⟩)
          | (have hz : unE b = 0 := h13
             have hz2 : L = [i0, i1, i2] := hL
             have hd := decU_three (b := b) hz (eL ▸ hz2)
             by_cases hc : i0 = ⟨1, 77, ⟨#[]⟩⟩ ∧ i1.kind = 1 ∧ 1 ≤ i1.n ∧ i2.kind = 2 ∧ (unpR i2.s).2 = 0
             ·
               rw [if_pos hc] at hd
               obtain ⟨e1, e2⟩ := decU_yes hd
               rw [e1, e2]
               obtain ⟨c1, c2, c3, c4, c5⟩ := hc
               first
                 | (exact ⟨_, rfl, rfl, kk⟩)
                 | (exfalso; omega)
                 | (exfalso; first | exact absurd c1 (by assumption) | exact absurd c5 (by assumption))
             ·
               rw [if_neg hc] at hd
               obtain ⟨e1, e2⟩ := decU_no hd
               rw [e1, e2]
               first
                 | (exact ⟨_, rfl, rfl, kk⟩)
                 | (have h2 : (unpR i2.s).2 = 2 := (unpR_err _).resolve_left (by assumption)
                    refine ⟨_, rfl, ?_, kk⟩
                    rw [← h2]
                    rfl)
                 | (exfalso; exact hc ⟨by assumption, by omega, by omega, by omega, by assumption⟩))
      ·
        refine WL.pickF rfl rfl rfl (WL.move rfl rfl (WL.want rfl rfl rfl (WL.move rfl rfl (WL.want rfl rfl rfl (?_)))))
        refine WL.indexT Tryd.underlying76 Tryd.sizeOf75 hq.rsl rfl rfl ⟨hi1, rfl⟩ rfl ?_
        intro b_3 o_3 hc_3
        refine WL.want rfl rfl rfl (WL.fieldAddr (fld_75_0) rfl rfl (WL.want rfl rfl rfl (WL.load Tryd.isAgg3 rfl (hc_3 _ _ rfl) rfl (WL.want rfl rfl rfl (?_)))))
        refine WL.neq? rfl rfl rfl (fun h31 => ?_) (fun h31 => ?_)
        ·
          refine WL.pickF rfl rfl rfl (WL.move rfl rfl (WL.pass rfl rfl rfl rfl (WL.pass rfl rfl rfl rfl (WL.pass rfl rfl rfl rfl (WL.pass rfl rfl rfl rfl (WL.pass rfl rfl rfl rfl (WL.pickT rfl rfl rfl (?_))))))))
          refine WL.move rfl rfl (WL.pass rfl rfl rfl rfl (WL.pass rfl rfl rfl rfl (WL.pass rfl rfl rfl rfl (WL.pass rfl rfl rfl rfl (WL.pass rfl rfl rfl rfl (WL.pickT rfl rfl rfl (WL.nil (?_))))))))
          refine WX.then_normal (WC.cond_true rfl (WC.seq (WC.region (WL.bld rfl (bld_25_z) rfl (?_)))))
          refine WL.stores Tryd.sizeOf25 hb_1 rfl rfl (by simp; done) (by simp [Value.oneCell']; done) (by simp [Value.cells]; done) rfl ?_
          intro w_4 hs_4 hn_4 k_4
          have zs_k_4 := k_4.size
          replace hr := hr.chg k_4 (by intro b h1 h2 h3; have h4 : _ = _ := h3; (try dsimp only at h2); exfalso; omega)
          replace kk := kk.chg k_4 (by intro x h1 h2; have h3 : _ = _ := h2; exfalso; omega)
          replace hq := hq.chg k_4 (by intro b h1 h2 h3; have h4 : _ = _ := h3; (try dsimp only at h2); exfalso; omega)
          replace hb_1 := hn_4
          refine WL.assign rfl rfl (WL.nil (WX.then_normal (WC.ret (WX.then_ret (?_)))))
          refine WX.ret2c (.inl rfl) Tryd.results14 Tryd.isAgg25 Tryd.sizeOf25 hb_1 rfl (by rfl) rfl ?_
          first
            | (have hz : unE b ≠ 0 := h13
               obtain ⟨e1, e2⟩ := decU_no (decU_bad (b := b) (.inl hz))
               rw [e1, e2]
               exact ⟨_, rfl, rfl, kk⟩)
            | (have hz : (L.length : Int) ≠ 3 := h17
               obtain ⟨e1, e2⟩ := decU_no (decU_bad (b := b) (.inr (fun h9 => hz (by rw [eL, h9]; rfl))))
               rw [e1, e2]
               exact ⟨_, rfl, rfl, kk⟩)
            | (have hz : unE b = 0 := h13
               have hz2 : L = [i0, i1, i2] := hL
               have hd := decU_three (b := b) hz (eL ▸ hz2)
               by_cases hc : i0 = ⟨1, 77, ⟨#[]⟩⟩ ∧ i1.kind = 1 ∧ 1 ≤ i1.n ∧ i2.kind = 2 ∧ (unpR i2.s).2 = 0
               ·
                 rw [if_pos hc] at hd
                 obtain ⟨e1, e2⟩ := decU_yes hd
                 rw [e1, e2]
                 obtain ⟨c1, c2, c3, c4, c5⟩ := hc
                 first
                   | (exact ⟨_, rfl, rfl, kk⟩)
                   | (exfalso; omega)
                   | (exfalso; first | exact absurd c1 (by assumption) | exact absurd c5 (by assumption))
               ·
                 rw [if_neg hc] at hd
                 obtain ⟨e1, e2⟩ := decU_no hd
                 rw [e1, e2]
                 first
                   | (exact ⟨_, rfl, rfl, kk⟩)
                   | (have h2 : (unpR i2.s).2 = 2 := (unpR_err _).resolve_left (by assumption)
                      refine ⟨_, rfl, ?_, kk⟩
                      rw [← h2]
                      rfl)
                   | (exfalso; exact hc ⟨by assumption, by omega, by omega, by omega, by assumption⟩))
        ·
          refine WL.pickF rfl rfl rfl (WL.move rfl rfl (WL.want rfl rfl rfl (WL.move rfl rfl (WL.want rfl rfl rfl (?_)))))
          refine WL.indexT Tryd.underlying76 Tryd.sizeOf75 hq.rsl rfl rfl ⟨hi1, rfl⟩ rfl ?_
          intro b_4 o_4 hc_4
          refine WL.want rfl rfl rfl (WL.fieldAddr (fld_75_1) rfl rfl (WL.want rfl rfl rfl (WL.load Tryd.isAgg3 rfl (hc_4 _ _ rfl) rfl (WL.want rfl rfl rfl (?_)))))
          refine WL.lss? rfl rfl rfl (fun h38 => ?_) (fun h38 => ?_)
          ·
            refine WL.pickF rfl rfl rfl (WL.move rfl rfl (WL.pass rfl rfl rfl rfl (WL.pass rfl rfl rfl rfl (WL.pass rfl rfl rfl rfl (WL.pass rfl rfl rfl rfl (WL.pass rfl rfl rfl rfl (WL.pickT rfl rfl rfl (?_))))))))
            refine WL.nil (WX.then_normal (WC.cond_true rfl (WC.seq (WC.region (WL.bld rfl (bld_25_z) rfl (?_))))))
            refine WL.stores Tryd.sizeOf25 hb_1 rfl rfl (by simp; done) (by simp [Value.oneCell']; done) (by simp [Value.cells]; done) rfl ?_
            intro w_5 hs_5 hn_5 k_5
            have zs_k_5 := k_5.size
            replace hr := hr.chg k_5 (by intro b h1 h2 h3; have h4 : _ = _ := h3; (try dsimp only at h2); exfalso; omega)
            replace kk := kk.chg k_5 (by intro x h1 h2; have h3 : _ = _ := h2; exfalso; omega)
            replace hq := hq.chg k_5 (by intro b h1 h2 h3; have h4 : _ = _ := h3; (try dsimp only at h2); exfalso; omega)
            replace hb_1 := hn_5
            refine WL.assign rfl rfl (WL.nil (WX.then_normal (WC.ret (WX.then_ret (?_)))))
            refine WX.ret2c (.inl rfl) Tryd.results14 Tryd.isAgg25 Tryd.sizeOf25 hb_1 rfl (by rfl) rfl ?_
            first
              | (have hz : unE b ≠ 0 := h13
                 obtain ⟨e1, e2⟩ := decU_no (decU_bad (b := b) (.inl hz))
                 rw [e1, e2]
                 exact ⟨_, rfl, rfl, kk⟩)
              | (have hz : (L.length : Int) ≠ 3 := h17
                 obtain ⟨e1, e2⟩ := decU_no (decU_bad (b := b) (.inr (fun h9 => hz (by rw [eL, h9]; rfl))))
                 rw [e1, e2]
                 exact ⟨_, rfl, rfl, kk⟩)
              | (have hz : unE b = 0 := h13
                 have hz2 : L = [i0, i1, i2] := hL
                 have hd := decU_three (b := b) hz (eL ▸ hz2)
                 by_cases hc : i0 = ⟨1, 77, ⟨#[]⟩⟩ ∧ i1.kind = 1 ∧ 1 ≤ i1.n ∧ i2.kind = 2 ∧ (unpR i2.s).2 = 0
                 ·
                   rw [if_pos hc] at hd
                   obtain ⟨e1, e2⟩ := decU_yes hd
                   rw [e1, e2]
                   obtain ⟨c1, c2, c3, c4, c5⟩ := hc
                   first
                     | (exact ⟨_, rfl, rfl, kk⟩)
                     | (exfalso; omega)
                     | (exfalso; first | exact absurd c1 (by assumption) | exact absurd c5 (by assumption))
                 ·
                   rw [if_neg hc] at hd
                   obtain ⟨e1, e2⟩ := decU_no hd
                   rw [e1, e2]
                   first
                     | (exact ⟨_, rfl, rfl, kk⟩)
                     | (have h2 : (unpR i2.s).2 = 2 := (unpR_err _).resolve_left (by assumption)
                        refine ⟨_, rfl, ?_, kk⟩
                        rw [← h2]
                        rfl)
                     | (exfalso; exact hc ⟨by assumption, by omega, by omega, by omega, by assumption⟩))
          ·
            refine WL.pickF rfl rfl rfl (WL.move rfl rfl (WL.want rfl rfl rfl (WL.move rfl rfl (WL.want rfl rfl rfl (?_)))))
            refine WL.indexT Tryd.underlying76 Tryd.sizeOf75 hq.rsl rfl rfl ⟨hi2, rfl⟩ rfl ?_
            intro b_5 o_5 hc_5
            refine WL.want rfl rfl rfl (WL.fieldAddr (fld_75_0) rfl rfl (WL.want rfl rfl rfl (WL.load Tryd.isAgg3 rfl (hc_5 _ _ rfl) rfl (WL.want rfl rfl rfl (?_)))))
            refine WL.neq? rfl rfl rfl (fun h45 => ?_) (fun h45 => ?_)
            ·
              refine WL.pickF rfl rfl rfl (WL.nil (WX.then_normal (WC.cond_true rfl (WC.seq (WC.region (WL.bld rfl (bld_25_z) rfl (?_)))))))
              refine WL.stores Tryd.sizeOf25 hb_1 rfl rfl (by simp; done) (by simp [Value.oneCell']; done) (by simp [Value.cells]; done) rfl ?_
              intro w_6 hs_6 hn_6 k_6
              have zs_k_6 := k_6.size
              replace hr := hr.chg k_6 (by intro b h1 h2 h3; have h4 : _ = _ := h3; (try dsimp only at h2); exfalso; omega)
              replace kk := kk.chg k_6 (by intro x h1 h2; have h3 : _ = _ := h2; exfalso; omega)
              replace hq := hq.chg k_6 (by intro b h1 h2 h3; have h4 : _ = _ := h3; (try dsimp only at h2); exfalso; omega)
              replace hb_1 := hn_6
              refine WL.assign rfl rfl (WL.nil (WX.then_normal (WC.ret (WX.then_ret (?_)))))
              refine WX.ret2c (.inl rfl) Tryd.results14 Tryd.isAgg25 Tryd.sizeOf25 hb_1 rfl (by rfl) rfl ?_
              first
                | (have hz : unE b ≠ 0 := h13
                   obtain ⟨e1, e2⟩ := decU_no (decU_bad (b := b) (.inl hz))
                   rw [e1, e2]
                   exact ⟨_, rfl, rfl, kk⟩)
                | (have hz : (L.length : Int) ≠ 3 := h17
                   obtain ⟨e1, e2⟩ := decU_no (decU_bad (b := b) (.inr (fun h9 => hz (by rw [eL, h9]; rfl))))
                   rw [e1, e2]
                   exact ⟨_, rfl, rfl, kk⟩)
                | (have hz : unE b = 0 := h13
                   have hz2 : L = [i0, i1, i2] := hL
                   have hd := decU_three (b := b) hz (eL ▸ hz2)
                   by_cases hc : i0 = ⟨1, 77, ⟨#[]⟩⟩ ∧ i1.kind = 1 ∧ 1 ≤ i1.n ∧ i2.kind = 2 ∧ (unpR i2.s).2 = 0
                   ·
                     rw [if_pos hc] at hd
                     obtain ⟨e1, e2⟩ := decU_yes hd
                     rw [e1, e2]
                     obtain ⟨c1, c2, c3, c4, c5⟩ := hc
                     first
                       | (exact ⟨_, rfl, rfl, kk⟩)
                       | (exfalso; omega)
                       | (exfalso; first | exact absurd c1 (by assumption) | exact absurd c5 (by assumption))
                   ·
                     rw [if_neg hc] at hd
                     obtain ⟨e1, e2⟩ := decU_no hd
                     rw [e1, e2]
                     first
                       | (exact ⟨_, rfl, rfl, kk⟩)
                       | (have h2 : (unpR i2.s).2 = 2 := (unpR_err _).resolve_left (by assumption)
                          refine ⟨_, rfl, ?_, kk⟩
                          rw [← h2]
                          rfl)
                       | (exfalso; exact hc ⟨by assumption, by omega, by omega, by omega, by assumption⟩))
            ·
              refine WL.pickF rfl rfl rfl (WL.nil (WX.then_normal (WC.cond_false rfl (WC.skip (WX.then_normal (WC.seq (WC.region (?_))))))))
              refine WL.move rfl rfl (?_)
              refine WL.indexT Tryd.underlying76 Tryd.sizeOf75 hq.rsl rfl rfl ⟨hi2, rfl⟩ rfl ?_
              intro b_6 o_6 hc_6
              refine WL.fieldAddr (fld_75_2) rfl rfl (WL.load Tryd.isAgg9 rfl (hc_6 _ _ rfl) rfl (?_))
              have hg2 : Good i2 := un_good (b := b) i2 (by rw [← eL, hL]; simp)
              have hs2 : i2.s.size ≤ 4000 := by
                have h9 := hg2.1
                simp only [longI, decide_eq_false_iff_not] at h9
                omega
              refine WL.call eg_41 rfl rfl (unptr_calls i2.s _ (by omega)) ?_
              rintro v w2 ⟨rfl, k2⟩
              have zs_k2 := k2.size
              replace hr := hr.pure k2
              replace kk := kk.pure k2
              replace hb_1 := hb_1.pure k2
              replace hq := hq.pure k2
              refine WL.move rfl rfl (WL.extract rfl rfl rfl (WL.extract rfl rfl rfl (?_)))
              refine WL.alloc Tryd.zeroValue23 rfl ?_
              intro g_7 w_7 hge_7 hlt_7 hb_7 k_7
              have zs_k_7 := k_7.size
              replace hr := hr.pure k_7
              replace kk := kk.pure k_7
              replace hb_1 := hb_1.pure k_7
              replace hq := hq.pure k_7
              refine WL.stores Tryd.sizeOf23 hb_7 rfl rfl (by rfl) (by exact Enc.one _ _) (by exact Nat.le_of_ble_eq_true rfl) rfl ?_
              intro w_8 hs_8 hn_8 k_8
              have zs_k_8 := k_8.size
              replace hr := hr.chg k_8 (by intro b h1 h2 h3; have h4 : _ = _ := h3; (try dsimp only at h2); exfalso; omega)
              replace kk := kk.chg k_8 (by intro x h1 h2; have h3 : _ = _ := h2; exfalso; omega)
              replace hb_1 := hb_1.chg k_8 (by intro h1; have h2 : _ = _ := h1; exfalso; omega)
              replace hq := hq.chg k_8 (by intro b h1 h2 h3; have h4 : _ = _ := h3; (try dsimp only at h2); exfalso; omega)
              replace hb_7 := hn_8
              refine WL.assign rfl rfl (WL.nil (WX.then_normal (WC.seq (WC.seq (WC.region (WL.move rfl rfl (?_)))))))
              refine WL.neq? rfl rfl rfl (fun h57 => ?_) (fun h57 => ?_)
              ·
                refine WL.nil (WX.then_normal (WC.cond_true rfl (WC.seq (WC.region (WL.bld rfl (bld_25_z) rfl (WL.move rfl rfl (?_)))))))
                refine WL.stores Tryd.sizeOf25 hb_1 rfl rfl (by simp; done) (by simp [Value.oneCell']; done) (by simp [Value.cells]; done) rfl ?_
                intro w_9 hs_9 hn_9 k_9
                have zs_k_9 := k_9.size
                replace hr := hr.chg k_9 (by intro b h1 h2 h3; have h4 : _ = _ := h3; (try dsimp only at h2); exfalso; omega)
                replace kk := kk.chg k_9 (by intro x h1 h2; have h3 : _ = _ := h2; exfalso; omega)
                replace hq := hq.chg k_9 (by intro b h1 h2 h3; have h4 : _ = _ := h3; (try dsimp only at h2); exfalso; omega)
                replace hb_7 := hb_7.chg k_9 (by intro h1; have h2 : _ = _ := h1; exfalso; omega)
                replace hb_1 := hn_9
                refine WL.assign rfl rfl (WL.nil (WX.then_normal (WC.ret (WX.then_ret (?_)))))
                refine WX.ret2c (.inl rfl) Tryd.results14 Tryd.isAgg25 Tryd.sizeOf25 hb_1 rfl (by rfl) rfl ?_
                first
                  | (have hz : unE b ≠ 0 := h13
                     obtain ⟨e1, e2⟩ := decU_no (decU_bad (b := b) (.inl hz))
                     rw [e1, e2]
                     exact ⟨_, rfl, rfl, kk⟩)
                  | (have hz : (L.length : Int) ≠ 3 := h17
                     obtain ⟨e1, e2⟩ := decU_no (decU_bad (b := b) (.inr (fun h9 => hz (by rw [eL, h9]; rfl))))
                     rw [e1, e2]
                     exact ⟨_, rfl, rfl, kk⟩)
                  | (have hz : unE b = 0 := h13
                     have hz2 : L = [i0, i1, i2] := hL
                     have hd := decU_three (b := b) hz (eL ▸ hz2)
                     by_cases hc : i0 = ⟨1, 77, ⟨#[]⟩⟩ ∧ i1.kind = 1 ∧ 1 ≤ i1.n ∧ i2.kind = 2 ∧ (unpR i2.s).2 = 0
                     ·
                       rw [if_pos hc] at hd
                       obtain ⟨e1, e2⟩ := decU_yes hd
                       rw [e1, e2]
                       obtain ⟨c1, c2, c3, c4, c5⟩ := hc
                       first
                         | (exact ⟨_, rfl, rfl, kk⟩)
                         | (exfalso; omega)
                         | (exfalso; first | exact absurd c1 (by assumption) | exact absurd c5 (by assumption))
                     ·
                       rw [if_neg hc] at hd
                       obtain ⟨e1, e2⟩ := decU_no hd
                       rw [e1, e2]
                       first
                         | (exact ⟨_, rfl, rfl, kk⟩)
                         | (have h2 : (unpR i2.s).2 = 2 := (unpR_err _).resolve_left (by assumption)
                            refine ⟨_, rfl, ?_, kk⟩
                            rw [← h2]
                            rfl)
                         | (exfalso; exact hc ⟨by assumption, by omega, by omega, by omega, by assumption⟩))
              ·
                refine WL.nil (WX.then_normal (WC.cond_false rfl (WC.skip (WX.then_normal (WC.seq (?_))))))
                obtain ⟨b0, o0, rfl⟩ := hq.rsl.place hi1
                refine WC.draw ((fun x => x = g_1)) [0, 1, 2, 3, 4, 5, 7] [6] mixed rfl rfl (fun wd_9 kd_9 zd_9 => ?_)
                have zs_kd_9 := kd_9.size
                replace hr := hr.pure kd_9
                replace kk := kk.pure kd_9
                replace hb_1 := hb_1.pure kd_9
                replace hq := hq.pure kd_9
                replace hb_7 := hb_7.pure kd_9
                apply DQ.step (E' := [(4, _)])
                case ho => rfl
                case hs => exact ⟨rfl, trivial⟩
                case hk => rfl
                case h1 =>
                  intro wq_11 kq_11
                  refine WL.move rfl rfl (?_)
                  refine WL.nil ?_
                  exact WX.one ⟨rfl, by exact Chg.refl _ _⟩
                apply DQ.step (E' := [(60, _)])
                case ho => rfl
                case hs => exact ⟨rfl, trivial⟩
                case hk => rfl
                case h1 =>
                  intro wq_12 kq_12
                  have zs_kq_12 := kq_12.size
                  replace hr := hr.chg kq_12 (by intro b h1 h2 h3; have h4 : _ = _ := h3; (try dsimp only at h2); exfalso; omega)
                  replace kk := kk.chg kq_12 (by intro x h1 h2; have h3 : _ = _ := h2; exfalso; omega)
                  replace hq := hq.chg kq_12 (by intro b h1 h2 h3; have h4 : _ = _ := h3; (try dsimp only at h2); exfalso; omega)
                  replace hb_7 := hb_7.chg kq_12 (by intro h1; have h2 : _ = _ := h1; exfalso; omega)
                  refine WL.indexC hq.rsl Tryd.underlying76 Tryd.sizeOf75 rfl rfl ⟨hi1, rfl⟩ rfl ?_
                  refine WL.nil ?_
                  exact WX.one ⟨rfl, by exact Chg.refl _ _⟩
                apply DQ.step (E' := [(61, _)])
                case ho => rfl
                case hs => exact ⟨rfl, trivial⟩
                case hk => rfl
                case h1 =>
                  intro wq_13 kq_13
                  refine WL.fieldAddr (fld_75_1) rfl rfl (?_)
                  refine WL.nil ?_
                  exact WX.one ⟨rfl, by exact Chg.refl _ _⟩
                apply DQ.step (E' := [(62, _)])
                case ho => rfl
                case hs => exact ⟨rfl, trivial⟩
                case hk => rfl
                case h1 =>
                  intro wq_14 kq_14
                  have zs_kq_14 := kq_14.size
                  replace hr := hr.chg kq_14 (by intro b h1 h2 h3; have h4 : _ = _ := h3; (try dsimp only at h2); exfalso; omega)
                  replace kk := kk.chg kq_14 (by intro x h1 h2; have h3 : _ = _ := h2; exfalso; omega)
                  replace hq := hq.chg kq_14 (by intro b h1 h2 h3; have h4 : _ = _ := h3; (try dsimp only at h2); exfalso; omega)
                  replace hb_7 := hb_7.chg kq_14 (by intro h1; have h2 : _ = _ := h1; exfalso; omega)
                  refine WL.load Tryd.isAgg3 rfl ((hq.rsl.cellsAt hi1) _ _ rfl) rfl (?_)
                  refine WL.nil ?_
                  exact WX.one ⟨rfl, by exact Chg.refl _ _⟩
                apply DQ.step (E' := [(6, _)])
                case ho => rfl
                case hs => exact ⟨rfl, trivial⟩
                case hk => rfl
                case h1 =>
                  intro wq_15 kq_15
                  have zs_kq_15 := kq_15.size
                  replace hr := hr.chg kq_15 (by intro b h1 h2 h3; have h4 : _ = _ := h3; (try dsimp only at h2); exfalso; omega)
                  replace kk := kk.chg kq_15 (by intro x h1 h2; have h3 : _ = _ := h2; exfalso; omega)
                  replace hq := hq.chg kq_15 (by intro b h1 h2 h3; have h4 : _ = _ := h3; (try dsimp only at h2); exfalso; omega)
                  replace hb_7 := hb_7.chg kq_15 (by intro h1; have h2 : _ = _ := h1; exfalso; omega)
                  refine WL.loadsB Tryd.isAgg23 Tryd.sizeOf23 hb_7 rfl (by rfl) rfl (?_)
                  refine WL.nil ?_
                  exact WX.one ⟨rfl, by exact Chg.refl _ _⟩
                apply DQ.step (E' := [(63, _), (64, _)])
                case ho => rfl
                case hs => exact ⟨rfl, rfl, trivial⟩
                case hk => rfl
                case h1 =>
                  intro wq_16 kq_16
                  refine WL.bld rfl (bld_25_0_1 _ _ _ _ _) rfl (?_)
                  refine WL.nil ?_
                  exact WX.one ⟨rfl, by exact Chg.refl _ _⟩
                apply DQ.step (E' := [])
                case ho => rfl
                case hs => exact trivial
                case hk => rfl
                case h1 =>
                  intro wq_17 kq_17
                  refine WL.assign rfl rfl (?_)
                  refine WL.nil ?_
                  exact WX.one ⟨rfl, by exact Chg.refl _ _⟩
                refine DQ.done (fun hd_10 => ?_)
                refine DL.step [(2, _), (65, _)] rfl ⟨rfl, rfl, trivial⟩ rfl (fun wq_18 kq_18 => ?_)
                have zs_kq_18 := kq_18.size
                replace hr := hr.pure kq_18
                replace kk := kk.pure kq_18
                replace hb_1 := hb_1.pure kq_18
                replace hq := hq.pure kq_18
                replace hb_7 := hb_7.pure kq_18
                replace hd_10 := hd_10.pure kq_18
                refine WL.stores Tryd.sizeOf25 hb_1 rfl rfl (by simp; done) (by simp [Value.oneCell']; done) (by simp [Value.cells]; done) rfl ?_
                intro w_19 hs_19 hn_19 k_19
                have zs_k_19 := k_19.size
                replace hr := hr.chg k_19 (by intro b h1 h2 h3; have h4 : _ = _ := h3; (try dsimp only at h2); exfalso; omega)
                replace kk := kk.chg k_19 (by intro x h1 h2; have h3 : _ = _ := h2; exfalso; omega)
                replace hq := hq.chg k_19 (by intro b h1 h2 h3; have h4 : _ = _ := h3; (try dsimp only at h2); exfalso; omega)
                replace hb_7 := hb_7.chg k_19 (by intro h1; have h2 : _ = _ := h1; exfalso; omega)
                replace hd_10 := hd_10.chg k_19 (by intro x h1 h2; exact h2)
                replace hb_1 := hn_19
                refine WL.nil ?_
                refine WX.one0 (v := undef) ⟨hd_10, ?_⟩
                refine DL.done (fun we_20 ke_20 => ?_)
                have zs_ke_20 := ke_20.size
                replace hr := hr.pure ke_20
                replace kk := kk.pure ke_20
                replace hb_1 := hb_1.pure ke_20
                replace hq := hq.pure ke_20
                replace hb_7 := hb_7.pure ke_20
                replace hd_10 := hd_10.pure ke_20
                refine WX.then_normal (WC.ret (?_))
                refine WX.ret2c (.inl rfl) Tryd.results14 Tryd.isAgg25 Tryd.sizeOf25 hb_1 rfl (by rfl) rfl ?_
                first
                  | (have hz : unE b ≠ 0 := h13
                     obtain ⟨e1, e2⟩ := decU_no (decU_bad (b := b) (.inl hz))
                     rw [e1, e2]
                     exact ⟨_, rfl, rfl, kk⟩)
                  | (have hz : (L.length : Int) ≠ 3 := h17
                     obtain ⟨e1, e2⟩ := decU_no (decU_bad (b := b) (.inr (fun h9 => hz (by rw [eL, h9]; rfl))))
                     rw [e1, e2]
                     exact ⟨_, rfl, rfl, kk⟩)
                  | (have hz : unE b = 0 := h13
                     have hz2 : L = [i0, i1, i2] := hL
                     have hd := decU_three (b := b) hz (eL ▸ hz2)
                     by_cases hc : i0 = ⟨1, 77, ⟨#[]⟩⟩ ∧ i1.kind = 1 ∧ 1 ≤ i1.n ∧ i2.kind = 2 ∧ (unpR i2.s).2 = 0
                     ·
                       rw [if_pos hc] at hd
                       obtain ⟨e1, e2⟩ := decU_yes hd
                       rw [e1, e2]
                       obtain ⟨c1, c2, c3, c4, c5⟩ := hc
                       first
                         | (exact ⟨_, rfl, rfl, kk⟩)
                         | (exfalso; omega)
                         | (exfalso; first | exact absurd c1 (by assumption) | exact absurd c5 (by assumption))
                     ·
                       rw [if_neg hc] at hd
                       obtain ⟨e1, e2⟩ := decU_no hd
                       rw [e1, e2]
                       first
                         | (exact ⟨_, rfl, rfl, kk⟩)
                         | (have h2 : (unpR i2.s).2 = 2 := (unpR_err _).resolve_left (by assumption)
                            refine ⟨_, rfl, ?_, kk⟩
                            rw [← h2]
                            rfl)
                         | (exfalso; exact hc ⟨by assumption, by omega, by omega, by omega, by assumption⟩))
end Go.Proofs.YtjeldcjchipdgaaDoor
namespace Go.Proofs.YtjeldcjchipdgaaDoor
open Go.ChangeShapes Go.WideShapes Go.RowKit Go.HL
set_option maxRecDepth 100000
section
variable {H : Type} {enc : TypeId × Value → H} {W : World}
theorem el_ptr (n : Nat) (cs : List Value) (y : DataW H × List MemPlace) (hl : cs.length = ept.sz) (_ : ∀ (q : Nat) (v : Value), cs[q]? = some v → True) (h : DataW.trod enc Tryd.prog W 0 (fun _ => true) true n 23 cs = some y) : ∃ x, cs = ept.f x ∧ WfP x := by
  obtain ⟨xs, m, _, _, _, hx, hf⟩ := DataW.trod_struct Tryd.underlying23 h
  match cs, hl with
  | [c0, c1, c2, c3], _ =>
    match xs, hx with
    | [y0, y1, y2, y3], _ =>
      have f0 : DataW.trod enc Tryd.prog W 0 (fun _ => true) true m 3 (([c0, c1, c2, c3].drop 0).take (Tryd.prog.cellsOf 3)) = some y0 := hf 0 _ rfl
      have f1 : DataW.trod enc Tryd.prog W 0 (fun _ => true) true m 3 (([c0, c1, c2, c3].drop 1).take (Tryd.prog.cellsOf 3)) = some y1 := hf 1 _ rfl
      have f2 : DataW.trod enc Tryd.prog W 0 (fun _ => true) true m 3 (([c0, c1, c2, c3].drop 2).take (Tryd.prog.cellsOf 3)) = some y2 := hf 2 _ rfl
      have f3 : DataW.trod enc Tryd.prog W 0 (fun _ => true) true m 9 (([c0, c1, c2, c3].drop 3).take (Tryd.prog.cellsOf 9)) = some y3 := hf 3 _ rfl
      rw [show Tryd.prog.cellsOf 3 = 1 from by kernel_rfl] at f0 f1 f2
      rw [show Tryd.prog.cellsOf 9 = 1 from by kernel_rfl] at f3
      obtain ⟨k0, e0, _, w0⟩ := DataW.trod_int Tryd.underlying3 f0
      obtain ⟨k1, e1, _, w1⟩ := DataW.trod_int Tryd.underlying3 f1
      obtain ⟨k2, e2, _, w2⟩ := DataW.trod_int Tryd.underlying3 f2
      obtain ⟨s, e3, _, _⟩ := DataW.trod_string Tryd.underlying9 f3
      injection e0 with e0
      injection e1 with e1
      injection e2 with e2
      injection e3 with e3
      subst e0; subst e1; subst e2; subst e3
      exact ⟨⟨k0, k1, k2, s⟩, rfl, by simpa [Lit.wf, IntKind.min, IntKind.max, IntKind.signed, IntKind.bits] using w0, by simpa [Lit.wf, IntKind.min, IntKind.max, IntKind.signed, IntKind.bits] using w1, by simpa [Lit.wf, IntKind.min, IntKind.max, IntKind.signed, IntKind.bits] using w2⟩
end
end Go.Proofs.YtjeldcjchipdgaaDoor
namespace Go.Proofs.YtjeldcjchipdgaaDoor
open Go.ChangeShapes Go.WideShapes Go.RowKit Go.HL
set_option maxRecDepth 100000
section
variable {H : Type} {enc : TypeId × Value → H} {W : World}
theorem el_ub (n : Nat) (cs : List Value) (y : DataW H × List MemPlace) (hl : cs.length = eub.sz) (_ : ∀ (q : Nat) (v : Value), cs[q]? = some v → True) (h : DataW.trod enc Tryd.prog W 0 (fun _ => true) true n 25 cs = some y) : ∃ x, cs = eub.f x ∧ WfU x := by
  obtain ⟨xs, m, _, _, _, hx, hf⟩ := DataW.trod_struct Tryd.underlying25 h
  match cs, hl with
  | [c0, c1, c2, c3, c4], _ =>
    match xs, hx with
    | [y0, y1], _ =>
      have f0 : DataW.trod enc Tryd.prog W 0 (fun _ => true) true m 3 (([c0, c1, c2, c3, c4].drop 0).take (Tryd.prog.cellsOf 3)) = some y0 := hf 0 _ rfl
      have f1 : DataW.trod enc Tryd.prog W 0 (fun _ => true) true m 23 (([c0, c1, c2, c3, c4].drop 1).take (Tryd.prog.cellsOf 23)) = some y1 := hf 1 _ rfl
      rw [show Tryd.prog.cellsOf 3 = 1 from by kernel_rfl] at f0
      rw [show Tryd.prog.cellsOf 23 = 4 from by kernel_rfl] at f1
      obtain ⟨k0, e0, _, w0⟩ := DataW.trod_int Tryd.underlying3 f0
      obtain ⟨x, ex, wx⟩ := el_ptr m _ _ rfl (fun _ _ _ => trivial) f1
      injection e0 with e0
      subst e0
      refine ⟨⟨k0, x⟩, ?_, by simpa [Lit.wf, IntKind.min, IntKind.max, IntKind.signed, IntKind.bits] using w0, wx⟩
      show [_, c1, c2, c3, c4] = _ :: ept.f x
      rw [← ex]
      rfl
end
end Go.Proofs.YtjeldcjchipdgaaDoor
namespace Go.Proofs.YtjeldcjchipdgaaDoor
open Go.RowKit Go.HL
set_option maxRecDepth 100000

/-! what a rack holds -/
abbrev Pl := Int × Int
def kpl (p : Pl) : Value := .agg #[vi p.1, vi p.2]
def vsl (r : Rw) : Value := .slice r.ao r.xs.length r.cap
def ewr : Enc (Pl × Rw) := ⟨3, fun x => [vi x.1.1, vi x.1.2, .slice x.2.ao x.2.xs.length x.2.cap], fun _ => rfl, by simp [Value.oneCell'], by decide⟩
theorem eqg_pl : Tryd.prog.eqGuardType Tryd.prog.depth 90 = false := by kernel_rfl
theorem eq_pl (a b c d : Int) (w : World) : (Op.equalIn 10000 90 (.agg #[vi a, vi b]) (.agg #[vi c, vi d])).run Tryd.prog w = .ok (decide (a = c ∧ b = d)) w := by
  refine eqA_of (d := 9999) Tryd.underlying90 (by kernel_rfl) ?_
  have h3 : (decide (a = c) && (decide (b = d) && true)) = decide (a = c ∧ b = d) := by simp [Bool.decide_and]
  rw [← h3]
  refine eqf_cons rfl (part1 (cs := [vi a, vi b]) Tryd.sizeOf3 Tryd.isAgg3 rfl) (part1 (cs := [vi c, vi d]) Tryd.sizeOf3 Tryd.isAgg3 rfl) (run_equalIn_int w 9998 _ _ _ _ _ Tryd.underlying3) ?_
  refine eqf_cons rfl (part1 (cs := [vi a, vi b]) Tryd.sizeOf3 Tryd.isAgg3 rfl) (part1 (cs := [vi c, vi d]) Tryd.sizeOf3 Tryd.isAgg3 rfl) (run_equalIn_int w 9998 _ _ _ _ _ Tryd.underlying3) eqf_nil
theorem plOk : KeyOk Tryd.prog 90 kpl where
  chk em w k := by
    have h1 : ∀ a w, (Instr.checkKey em 9999 3 (vi a)).run Tryd.prog w = .ok () w := fun a w => by
      rw [Instr.checkKey]
      simp [run_underlying Tryd.underlying3]
    show (Instr.checkKey em (9999 + 1) 90 (.agg #[vi k.1, vi k.2])).run Tryd.prog w = .ok () w
    rw [Instr.checkKey]
    simp [run_underlying Tryd.underlying90, part, Tryd.sizeOf3, Tryd.isAgg3, h1]
  eq w k k' := by
    show (Op.equalIn 10000 90 (.agg #[vi k.1, vi k.2]) (.agg #[vi k'.1, vi k'.2])).run Tryd.prog w = .ok (decide (k = k')) w
    rw [eq_pl, decide_eq_decide.2 (Prod.ext_iff (x := k) (y := k')).symm]
  st := ⟨_, Tryd.underlying90⟩
  same k := by
    show Instr.sameBits (9999 + 1) (.agg #[vi k.1, vi k.2]) (.agg #[vi k.1, vi k.2]) = true
    rw [Instr.sameBits]
    simp [Instr.sameBits]
structure RA where
  dn : Nat
  sn : Nat
  last : List (Pl × List UInt8)
  gone : List Bool
  waits : List (Pl × List UInt8)
  off : Bool
  armed : Bool
  left : Int
def xsm (l : List (Pl × Rw)) : List (Pl × List UInt8) := l.map fun p => (p.1, p.2.xs)
structure RA.ok (s : RA) : Prop where
  dn : 1 ≤ s.dn ∧ s.dn ≤ 16
  sn : 1 ≤ s.sn ∧ s.sn ≤ 2000
  gl : s.gone.length = s.dn
  ll : ∀ p ∈ s.last, p.2.length = 128
  lw : ∀ p ∈ s.waits, p.2.length = 128
  lf : (s.armed = true → 0 ≤ s.left) ∧ -9223372036854775808 ≤ s.left ∧ s.left ≤ 9223372036854775807
  nd : (s.last.map (·.1)).Nodup
abbrev rcells (s : RA) (m : Nat) (ga : Option Addr) (gc : Nat) (wa : Option Addr) (wc n : Nat) : List Value := [vi s.dn, vi s.sn, .map (some m), .slice ga s.gone.length gc, .slice wa n wc, .bool s.off, .bool s.armed, vi s.left]
/-- all but the rack's own block -/
structure RI (S : Nat → Prop) (w : World) (m : Nat) (ga : Option Addr) (gc : Nat) (wa : Option Addr) (wc : Nat) (gl : List Bool) (ws ls : List (Pl × Rw)) : Prop where
  sm : S m
  map : Mp kpl vsl w m ls
  gone : Row S w 4 ebool ga gc gl
  waits : Row S w 92 ewr wa wc ws
  byl : ∀ p ∈ ls, Row S w 5 eb p.2.ao p.2.cap p.2.xs
  byw : ∀ p ∈ ws, Row S w 5 eb p.2.ao p.2.cap p.2.xs
section
variable {S M : Nat → Prop} {w w' : World} {m : Nat} {ga : Option Addr} {gc : Nat} {wa : Option Addr} {wc : Nat} {gl : List Bool} {ws ls : List (Pl × Rw)}
theorem RI.chg (h : RI S w m ga gc wa wc gl ws ls) (k : Chg M w w') (hd : ∀ b, b < w.heap.size → S b → M b → False) : RI S w' m ga gc wa wc gl ws ls :=
  ⟨h.sm, h.map.chg k (fun hm => hd m h.map.lt h.sm hm), h.gone.chg k hd, h.waits.chg k hd, fun p hp => (h.byl p hp).chg k hd, fun p hp => (h.byw p hp).chg k hd⟩
theorem RI.pure (h : RI S w m ga gc wa wc gl ws ls) (k : Chg Nob w w') : RI S w' m ga gc wa wc gl ws ls := h.chg k (fun _ _ _ x => x)
theorem RI.mono {S' : Nat → Prop} (h : RI S w m ga gc wa wc gl ws ls) (k : ∀ b, S b → S' b) : RI S' w m ga gc wa wc gl ws ls :=
  ⟨k _ h.sm, h.map, h.gone.mono k, h.waits.mono k, fun p hp => (h.byl p hp).mono k, fun p hp => (h.byw p hp).mono k⟩
/-- no part of it is the rack's own block -/
theorem RI.open {R : Nat} {cs : List Value} (h : RI S w m ga gc wa wc gl ws ls) (hB : Blk w R 86 cs) : RI (fun b => S b ∧ b ≠ R) w m ga gc wa wc gl ws ls := by
  have hk := hB.kb
  refine ⟨⟨h.sm, fun e => ?_⟩, h.map, h.gone.kb.mono ?_, h.waits.kb.mono ?_, fun p hp => (h.byl p hp).kb.mono ?_, fun p hp => (h.byw p hp).kb.mono ?_⟩
  · have := h.map.kb
    rw [e, hk] at this
    simp at this
  all_goals
    rintro b ⟨h1, h2⟩
    refine ⟨h1, fun e => ?_⟩
    rw [e, hk] at h2
    exact absurd h2 (by decide)
/-- the row of the writes that wait alone has turned -/
theorem RI.setWaits {wa2 : Option Addr} {wc2 : Nat} {ws2 : List (Pl × Rw)} (h : RI S w m ga gc wa wc gl ws ls) (hW : Row S w' 92 ewr wa2 wc2 ws2) (k : Chg M w w') (hM : ∀ b, M b → Eqb wa b) (hn : ∀ p ∈ ws2, (∃ q ∈ ws, q.2 = p.2) ∨ Row S w 5 eb p.2.ao p.2.cap p.2.xs) : RI S w' m ga gc wa2 wc2 gl ws2 ls := by
  have hd : ∀ b, b < w.heap.size → M b → kb w b = some (some 92) := fun b _ hm => h.waits.kb.at_.eqb (hM b hm) |>.2
  have hb : ∀ p ∈ ws2, Row S w 5 eb p.2.ao p.2.cap p.2.xs := fun p hp => by
    rcases hn p hp with ⟨q, hq, e⟩ | h1
    · rw [← e]; exact h.byw q hq
    · exact h1
  refine ⟨h.sm, h.map.chg k (fun hm => ?_), h.gone.chgK k (fun b h1 h2 => ?_), hW, fun p hp => (h.byl p hp).chgK k (fun b h1 h2 => ?_), fun p hp => (hb p hp).chgK k (fun b h1 h2 => ?_)⟩
  · have h1 := hd m h.map.lt hm
    rw [h.map.kb] at h1
    simp at h1
  all_goals
    rw [hd b h1 h2]
    decide
end
/-- a rack -/
structure RK (A : Nat → Prop) (w : World) (R : Nat) (s : RA) : Prop where
  aR : A R
  ok : s.ok
  ex : ∃ (m : Nat) (ga : Option Addr) (gc : Nat) (wa : Option Addr) (wc : Nat) (ws ls : List (Pl × Rw)), Blk w R 86 (rcells s m ga gc wa wc ws.length) ∧ RI A w m ga gc wa wc s.gone ws ls ∧ s.last = xsm ls ∧ s.waits = xsm ws
theorem RK.chg {A M : Nat → Prop} {w w' : World} {R : Nat} {s : RA} (h : RK A w R s) (k : Chg M w w') (hd : ∀ b, b < w.heap.size → A b → M b → False) : RK A w' R s := by
  obtain ⟨m, ga, gc, wa, wc, ws, ls, hB, hI, hl⟩ := h.ex
  exact ⟨h.aR, h.ok, m, ga, gc, wa, wc, ws, ls, hB.chg k (fun hm => hd R hB.lt h.aR hm), hI.chg k hd, hl⟩
theorem RK.pure {A : Nat → Prop} {w w' : World} {R : Nat} {s : RA} (h : RK A w R s) (k : Chg Nob w w') : RK A w' R s := h.chg k (fun _ _ _ x => x)
theorem RK.mono {A A' : Nat → Prop} {w : World} {R : Nat} {s : RA} (h : RK A w R s) (k : ∀ b, A b → A' b) : RK A' w R s := by
  obtain ⟨m, ga, gc, wa, wc, ws, ls, hB, hI, hl⟩ := h.ex
  exact ⟨k _ h.aR, h.ok, m, ga, gc, wa, wc, ws, ls, hB, hI.mono k, hl⟩
abbrev ptr (g : Nat) : Value := .pointer (some ⟨g, 0, none⟩)
/-! asking for a drive, for a sector -/
theorem is_calls {A : Nat → Prop} {w : World} {R : Nat} {s : RA} (h : RK A w R s) (d : Int) : Calls Tryd.prog 51 [ptr R, vi d].toArray w (Ret fun v w' => v = .bool (decide (0 ≤ d ∧ d < s.dn)) ∧ Chg Nob w w') := by
  obtain ⟨m, ga, gc, wa, wc, ws, ls, hB, -⟩ := h.ex
  have hw := Chg.refl Nob w
  refine Calls.of_WC Tryd.func51 rfl Tryd.ntmps51 (by simp) ?_
  refine WC.seq (WC.region (WL.assign rfl rfl (WL.nil (WX.then_normal (WC.seq (WC.region (WL.move rfl rfl (?_))))))))
  refine WL.ptrSome Tryd.underlying41 rfl rfl rfl ?_
  refine WL.move rfl rfl (WL.want rfl rfl rfl (WL.move rfl rfl (WL.want rfl rfl rfl (?_))))
  refine WL.geq? rfl rfl rfl (fun h9 => ?_) (fun h9 => ?_)
  ·
    refine WL.pickT rfl rfl rfl (WL.move rfl rfl (WL.want rfl rfl rfl (WL.move rfl rfl (WL.want rfl rfl rfl (WL.move rfl rfl (WL.want rfl rfl rfl (WL.nilCheck rfl rfl (?_))))))))
    refine WL.want rfl rfl rfl (WL.fieldAddr (fld_86_0) rfl rfl (WL.want rfl rfl rfl (WL.loadB Tryd.isAgg3 hB rfl rfl rfl (WL.want rfl rfl rfl (WL.lss rfl rfl rfl (WL.pickT rfl rfl rfl (WL.assign rfl rfl (?_))))))))
    refine WL.nil (WX.then_normal (WC.ret (?_)))
    refine WX.ret1 (.inl rfl) Tryd.results51 rfl ?_
    refine ⟨_, rfl, ?_, hw⟩
    congr 1
    simp
    omega
  ·
    refine WL.pickT rfl rfl rfl (WL.move rfl rfl (WL.pass rfl rfl rfl rfl (WL.pass rfl rfl rfl rfl (WL.pass rfl rfl rfl rfl (WL.pass rfl rfl rfl rfl (WL.pass rfl rfl rfl rfl (WL.pass rfl rfl rfl rfl (?_))))))))
    refine WL.pickF rfl rfl rfl (WL.assign rfl rfl (WL.nil (WX.then_normal (WC.ret (?_)))))
    refine WX.ret1 (.inl rfl) Tryd.results51 rfl ?_
    refine ⟨_, rfl, ?_, hw⟩
    congr 1
    simp
    omega
theorem in_calls {A : Nat → Prop} {w : World} {R : Nat} {s : RA} (h : RK A w R s) (d a : Int) : Calls Tryd.prog 46 [ptr R, vi d, vi a].toArray w (Ret fun v w' => v = .bool (decide (0 ≤ d ∧ d < s.dn ∧ 0 ≤ a ∧ a < s.sn)) ∧ Chg Nob w w') := by
  have hw := Chg.refl Nob w
  refine Calls.of_WC Tryd.func46 rfl Tryd.ntmps46 (by simp) ?_
  refine WC.seq (WC.region (WL.assign rfl rfl (WL.nil (WX.then_normal (WC.seq (WC.region (WL.move rfl rfl (?_))))))))
  refine WL.move rfl rfl (?_)
  refine WL.call eg_51 rfl rfl (is_calls h d) ?_
  rintro v w1 ⟨rfl, k1⟩
  have zs_k1 := k1.size
  replace h := h.pure k1
  replace hw := hw.pure k1
  obtain ⟨m, ga, gc, wa, wc, ws, ls, hB, -⟩ := h.ex
  by_cases h9 : 0 ≤ d ∧ d < s.dn
  ·
    rw [decide_eq_true h9]
    refine WL.move rfl rfl (WL.want rfl rfl rfl (WL.move rfl rfl (WL.want rfl rfl rfl (?_))))
    refine WL.geq? rfl rfl rfl (fun h12 => ?_) (fun h12 => ?_)
    ·
      refine WL.pickT rfl rfl rfl (WL.move rfl rfl (WL.want rfl rfl rfl (WL.move rfl rfl (WL.want rfl rfl rfl (WL.move rfl rfl (WL.want rfl rfl rfl (WL.nilCheck rfl rfl (?_))))))))
      refine WL.want rfl rfl rfl (WL.fieldAddr (fld_86_1) rfl rfl (WL.want rfl rfl rfl (WL.loadB Tryd.isAgg3 hB rfl rfl rfl (WL.want rfl rfl rfl (WL.lss rfl rfl rfl (WL.pickT rfl rfl rfl (WL.assign rfl rfl (?_))))))))
      refine WL.nil (WX.then_normal (WC.ret (?_)))
      refine WX.ret1 (.inl rfl) Tryd.results46 rfl ?_
      refine ⟨_, rfl, ?_, hw⟩
      congr 1
      first
        | (simp [h9.1, h9.2, h12]; done)
        | (simp; omega)
    ·
      refine WL.pickT rfl rfl rfl (WL.move rfl rfl (WL.pass rfl rfl rfl rfl (WL.pass rfl rfl rfl rfl (WL.pass rfl rfl rfl rfl (WL.pass rfl rfl rfl rfl (WL.pass rfl rfl rfl rfl (WL.pass rfl rfl rfl rfl (?_))))))))
      refine WL.pickF rfl rfl rfl (WL.assign rfl rfl (WL.nil (WX.then_normal (WC.ret (?_)))))
      refine WX.ret1 (.inl rfl) Tryd.results46 rfl ?_
      refine ⟨_, rfl, ?_, hw⟩
      congr 1
      first
        | (simp [h9.1, h9.2, h12]; done)
        | (simp; omega)
  ·
    rw [decide_eq_false h9]
    refine WL.move rfl rfl (WL.pass rfl rfl rfl rfl (WL.pass rfl rfl rfl rfl (WL.pickF rfl rfl rfl (WL.move rfl rfl (WL.pass rfl rfl rfl rfl (WL.pass rfl rfl rfl rfl (WL.pass rfl rfl rfl rfl (?_))))))))
    refine WL.pass rfl rfl rfl rfl (WL.pass rfl rfl rfl rfl (WL.pass rfl rfl rfl rfl (WL.pickF rfl rfl rfl (WL.assign rfl rfl (WL.nil (WX.then_normal (WC.ret (?_))))))))
    refine WX.ret1 (.inl rfl) Tryd.results46 rfl ?_
    refine ⟨_, rfl, ?_, hw⟩
    congr 1
    first
      | (simp [h9.1, h9.2, h12]; done)
      | (simp; omega)
end Go.Proofs.YtjeldcjchipdgaaDoor
namespace Go.Proofs.YtjeldcjchipdgaaDoor
open Go.RowKit Go.HL
set_option maxRecDepth 100000

/-! the last write that waits for a sector -/
theorem newest_calls {S : Nat → Prop} {w : World} {R : Nat} {s : RA} {m : Nat} {ga : Option Addr} {gc : Nat} {wa : Option Addr} {wc : Nat} {ws : List (Pl × Rw)} (hB : Blk w R 86 (rcells s m ga gc wa wc ws.length)) (hW : Row S w 92 ewr wa wc ws) (p : Pl) :
    Calls Tryd.prog 49 [ptr R, kpl p].toArray w (Ret fun v w' => (∃ ao : Option Addr, v = .pointer ao ∧ ((ao = none ∧ ∀ x ∈ ws, x.1 ≠ p) ∨ (∃ j x g, ws[j]? = some x ∧ x.1 = p ∧ (∀ k y, j < k → ws[k]? = some y → y.1 ≠ p) ∧ wa = some ⟨g, 0, none⟩ ∧ ao = some ⟨g, 0 + j * 3, none⟩))) ∧ Chg Nob w w') := by
  replace hW := hW.lt
  have hw := Chg.refl Nob w
  have hcap := hW.own.cap
  have hws : ws.length ≤ 9223372036854775807 := by
    rcases hW.own.2.2 with ⟨_, h⟩ | ⟨_, _, _, _, _, _, h, _⟩
    · omega
    · simp only [maxLen] at h; omega
  obtain ⟨pd, pa⟩ := p
  refine Calls.of_WC Tryd.func49 rfl Tryd.ntmps49 (by simp) ?_
  refine WC.seq (WC.region (?_))
  refine WL.box rfl rfl ?_
  intro g1 w1 hge1 hlt1 hP k1
  replace hP : Blk w1 g1 90 [vi pd, vi pa] := hP
  have zs_k1 := k1.size
  replace hB := hB.pure k1
  replace hW := hW.pure k1
  replace hw := hw.pure k1
  refine WL.assign rfl rfl (WL.nil (WX.then_normal (WC.seq (WC.seq (WC.region (WL.move rfl rfl (WL.nilCheck rfl rfl (?_))))))))
  refine WL.fieldAddr (fld_86_4) rfl rfl (WL.loadB Tryd.isAgg84 hB rfl rfl rfl (WL.len Tryd.underlying84 rfl rfl (?_)))
  refine WL.sub64 rfl rfl (by constructor <;> omega) rfl ?_
  refine WL.assign rfl rfl (WL.nil (WX.then_normal (WC.block (?_))))
  refine WC.loop (σ := Nat) (fun i => [(0, ptr R), (3, ptr g1), (4, .pointer none), (5, vi ((i : Int) - 1))]) (fun i w' => i ≤ ws.length ∧ (∀ k x, i ≤ k → ws[k]? = some x → x.1 ≠ (pd, pa)) ∧ Blk w' R 86 (rcells s m ga gc wa wc ws.length) ∧ Row (fun b => S b ∧ b < w.heap.size) w' 92 ewr wa wc ws ∧ Blk w' g1 90 [vi pd, vi pa] ∧ Chg Nob w w') (fun i => i) ws.length ⟨rfl, rfl, rfl, rfl, trivial⟩ ⟨Nat.le_refl _, fun k x hk hx => by have := (List.getElem?_eq_some_iff.1 hx).1; omega, hB, hW, hP, hw⟩ ?_
  clear hB hW hP hw
  rintro i w1 ⟨hi, hno, hB, hW, hP, hw⟩
  refine WC.seq (WC.seq (WC.region (WL.move rfl rfl (?_))))
  refine WL.geq? rfl rfl rfl (fun h13 => ?_) (fun h13 => ?_)
  ·
    refine WL.nil (WX.then_normal (WC.cond_true rfl (WC.skip (WX.then_normal (WC.seq (WC.block (WC.seq (?_))))))))
    obtain ⟨j, rfl⟩ : ∃ j, i = j + 1 := ⟨i - 1, by omega⟩
    have hx : ws[j]? = some ws[j] := List.getElem?_eq_getElem (by omega)
    obtain ⟨x, ex⟩ : ∃ x, x = ws[j] := ⟨_, rfl⟩
    rw [← ex] at hx
    obtain ⟨g, rfl⟩ := hW.place0 (j := j) (by omega)
    refine WC.draw (Nob) [0, 1, 2, 3, 4, 5, 6, 7, 8, 9] [] mixed rfl rfl (fun wd_1 kd_1 zd_1 => ?_)
    have zs_kd_1 := kd_1.size
    replace hB := hB.pure kd_1
    replace hW := hW.pure kd_1
    replace hw := hw.pure kd_1
    replace hP := hP.pure kd_1
    apply DQ.step (E' := [(0, _)])
    case ho => rfl
    case hs => exact ⟨rfl, trivial⟩
    case hk => rfl
    case h1 =>
      intro wq_2 kq_2
      refine WL.move rfl rfl (?_)
      refine WL.nil ?_
      exact WX.one ⟨rfl, by exact Chg.refl _ _⟩
    apply DQ.step (E' := [(16, _)])
    case ho => rfl
    case hs => exact ⟨rfl, trivial⟩
    case hk => rfl
    case h1 =>
      intro wq_3 kq_3
      refine WL.nilCheck rfl rfl (?_)
      refine WL.nil ?_
      exact WX.one ⟨rfl, by exact Chg.refl _ _⟩
    apply DQ.step (E' := [(17, _)])
    case ho => rfl
    case hs => exact ⟨rfl, trivial⟩
    case hk => rfl
    case h1 =>
      intro wq_4 kq_4
      refine WL.fieldAddr (fld_86_4) rfl rfl (?_)
      refine WL.nil ?_
      exact WX.one ⟨rfl, by exact Chg.refl _ _⟩
    apply DQ.step (E' := [(18, _)])
    case ho => rfl
    case hs => exact ⟨rfl, trivial⟩
    case hk => rfl
    case h1 =>
      intro wq_5 kq_5
      have zs_kq_5 := kq_5.size
      replace hB := hB.pure kq_5
      replace hW := hW.pure kq_5
      replace hw := hw.pure kq_5
      replace hP := hP.pure kq_5
      refine WL.loadB Tryd.isAgg84 hB rfl rfl rfl (?_)
      refine WL.nil ?_
      exact WX.one ⟨rfl, by exact Chg.refl _ _⟩
    apply DQ.step (E' := [(5, _)])
    case ho => rfl
    case hs => exact ⟨rfl, trivial⟩
    case hk => rfl
    case h1 =>
      intro wq_6 kq_6
      refine WL.move rfl rfl (?_)
      refine WL.nil ?_
      exact WX.one ⟨rfl, by exact Chg.refl _ _⟩
    apply DQ.step (E' := [(19, _), (20, _)])
    case ho => rfl
    case hs => exact ⟨rfl, rfl, trivial⟩
    case hk => rfl
    case h1 =>
      intro wq_7 kq_7
      have zs_kq_7 := kq_7.size
      replace hB := hB.pure kq_7
      replace hW := hW.pure kq_7
      replace hw := hw.pure kq_7
      replace hP := hP.pure kq_7
      refine WL.indexC hW.rsl Tryd.underlying84 Tryd.sizeOf92 rfl rfl ⟨hx, (by omega)⟩ rfl ?_
      refine WL.nil ?_
      exact WX.one ⟨rfl, by exact Chg.refl _ _⟩
    apply DQ.step (E' := [(21, _)])
    case ho => rfl
    case hs => exact ⟨rfl, trivial⟩
    case hk => rfl
    case h1 =>
      intro wq_8 kq_8
      refine WL.fieldAddr (fld_92_0) rfl rfl (?_)
      refine WL.nil ?_
      exact WX.one ⟨rfl, by exact Chg.refl _ _⟩
    apply DQ.step (E' := [(22, _)])
    case ho => rfl
    case hs => exact ⟨rfl, trivial⟩
    case hk => rfl
    case h1 =>
      intro wq_9 kq_9
      have zs_kq_9 := kq_9.size
      replace hB := hB.pure kq_9
      replace hW := hW.pure kq_9
      replace hw := hw.pure kq_9
      replace hP := hP.pure kq_9
      refine WL.loads [vi x.1.1, vi x.1.2] Tryd.isAgg90 Tryd.sizeOf90 rfl (fun q v hv => ?_) rfl rfl ?_
      ·
        have h1 := hW.rsl.cellsAt hx q v
        refine h1 ?_
        obtain ⟨⟨x1, x2⟩, x3⟩ := x
        match q, hv with
        | 0, hv => exact hv
        | 1, hv => exact hv
      refine WL.nil ?_
      exact WX.one ⟨rfl, by exact Chg.refl _ _⟩
    apply DQ.step (E' := [(3, _)])
    case ho => rfl
    case hs => exact ⟨rfl, trivial⟩
    case hk => rfl
    case h1 =>
      intro wq_10 kq_10
      have zs_kq_10 := kq_10.size
      replace hB := hB.pure kq_10
      replace hW := hW.pure kq_10
      replace hw := hw.pure kq_10
      replace hP := hP.pure kq_10
      refine WL.loadsB Tryd.isAgg90 Tryd.sizeOf90 hP rfl (by simp; done) rfl (?_)
      refine WL.nil ?_
      exact WX.one ⟨rfl, by exact Chg.refl _ _⟩
    apply DQ.split (E' := [(23, _), (24, _)])
    case ho => rfl
    case hs => exact ⟨rfl, rfl, trivial⟩
    case hk => rfl
    case h1 =>
      intro wq_11 kq_11
      refine WL.aeql eqg_pl (eq_pl _ _ _ _) rfl rfl rfl ?_
      refine WL.nil ?_
      exact WX.one ⟨rfl, by exact Chg.refl _ _⟩
    case ht =>
      intro h25
      replace h25 := of_decide_eq_true h25
      refine DQ.done (fun _ => ?_)
      refine DL.done (fun we_12 ke_12 => ?_)
      have zs_ke_12 := ke_12.size
      replace hB := hB.pure ke_12
      replace hW := hW.pure ke_12
      replace hw := hw.pure ke_12
      replace hP := hP.pure ke_12
      refine WX.then_normal (WC.cond_true rfl (WC.seq (WC.region (WL.move rfl rfl (WL.nilCheck rfl rfl (WL.fieldAddr (fld_86_4) rfl rfl (WL.loadB Tryd.isAgg84 hB rfl rfl rfl (?_))))))))
      refine WL.move rfl rfl (?_)
      refine WL.indexC hW.rsl Tryd.underlying84 Tryd.sizeOf92 rfl rfl ⟨hx, by omega⟩ rfl ?_
      refine WL.assign rfl rfl (WL.nil (WX.then_normal (WC.ret (WX.block_ret (WX.then_ret (WX.then_ret (WX.block_ret (?_))))))))
      refine WX.then_ret (?_)
      refine WX.ret1 (.inl rfl) Tryd.results49 rfl ?_
      refine ⟨_, rfl, ?_, hw⟩
      first
        | exact ⟨_, rfl, .inr ⟨j, x, g, hx, Prod.ext h25.1 h25.2, fun k y hk hy => hno k y (by omega) hy, rfl, rfl⟩⟩
        | exact ⟨_, rfl, .inl ⟨rfl, fun x hx => by
            obtain ⟨k, hk, rfl⟩ := List.getElem_of_mem hx
            exact hno k _ (by omega) (List.getElem?_eq_getElem hk)⟩⟩
    case hf =>
      intro h25
      replace h25 := of_decide_eq_false h25
      refine DQ.done (fun _ => ?_)
      refine DL.done (fun we_12 ke_12 => ?_)
      have zs_ke_12 := ke_12.size
      replace hB := hB.pure ke_12
      replace hW := hW.pure ke_12
      replace hw := hw.pure ke_12
      replace hP := hP.pure ke_12
      refine WX.then_normal (WC.cond_false rfl (WC.skip (WX.block_normal (WX.then_normal (WC.region (WL.move rfl rfl (WL.sub64 rfl rfl (by omega) rfl (?_))))))))
      refine WL.assign rfl rfl (WL.nil (?_))
      refine WX.loop_next j ⟨rfl, rfl, rfl, by simp [List.lookup, ev]; try omega, trivial⟩ ⟨by omega, ?_, hB, hW, hP, hw⟩ (by omega)
      intro k y hk hy
      rcases Nat.lt_or_ge j k with h1 | h1
      ·
        exact hno k y (by omega) hy
      ·
        have : k = j := by omega
        subst this
        rw [hx] at hy
        injection hy with hy
        subst hy
        intro e
        rw [e] at h25
        exact h25 ⟨rfl, rfl⟩
  ·
    refine WL.nil (WX.then_normal (WC.cond_false rfl (WC.exit (WX.then_exit (WX.then_exit (WX.block_here (WX.then_normal (?_))))))))
    refine WC.seq (WC.region (WL.assign rfl rfl (WL.nil (WX.then_normal (WC.ret (?_))))))
    refine WX.ret1 (.inl rfl) Tryd.results49 rfl ?_
    refine ⟨_, rfl, ?_, hw⟩
    first
      | exact ⟨_, rfl, .inr ⟨j, x, g, hx, Prod.ext h25.1 h25.2, fun k y hk hy => hno k y (by omega) hy, rfl, rfl⟩⟩
      | exact ⟨_, rfl, .inl ⟨rfl, fun x hx => by
          obtain ⟨k, hk, rfl⟩ := List.getElem_of_mem hx
          exact hno k _ (by omega) (List.getElem?_eq_getElem hk)⟩⟩
end Go.Proofs.YtjeldcjchipdgaaDoor
namespace Go.Proofs.YtjeldcjchipdgaaDoor
open Go.RowKit Go.HL
set_option maxRecDepth 100000

/-! plain: the last of those with a place -/
section
variable {K V : Type} [DecidableEq K]
theorem mget_app (l1 l2 : List (K × V)) (k : K) : mget (l1 ++ l2) k = match mget l1 k with | some v => some v | none => mget l2 k := by
  induction l1 with
  | nil => rfl
  | cons p r ih =>
    obtain ⟨k', v⟩ := p
    simp only [List.cons_append, mget]
    by_cases h : k = k'
    · simp [h]
    · simp [h, ih]
theorem mget_no {l : List (K × V)} {k : K} (h : ∀ x ∈ l, x.1 ≠ k) : mget l k = none := by
  induction l with
  | nil => rfl
  | cons p r ih =>
    obtain ⟨k', v⟩ := p
    have h1 := h (k', v) (by simp)
    simp only [mget]
    rw [if_neg (fun e => h1 e.symm)]
    exact ih (fun x hx => h x (List.mem_cons_of_mem _ hx))
theorem mget_mem {l : List (K × V)} {k : K} {v : V} (h : mget l k = some v) : (k, v) ∈ l := by
  induction l with
  | nil => cases h
  | cons p r ih =>
    obtain ⟨k', u⟩ := p
    simp only [mget] at h
    by_cases e : k = k'
    · subst e
      simp at h
      simp [h]
    · rw [if_neg e] at h
      exact List.mem_cons_of_mem _ (ih h)
/-- of those with a place the last -/
def newV (ws : List (K × V)) (p : K) : Option V := mget ws.reverse p
theorem newV_none {ws : List (K × V)} {p : K} (h : ∀ x ∈ ws, x.1 ≠ p) : newV ws p = none := mget_no (fun x hx => h x (List.mem_reverse.1 hx))
omit [DecidableEq K] in
theorem split_at {ws : List (K × V)} {j : Nat} {x : K × V} (hx : ws[j]? = some x) : ws = ws.take j ++ [x] ++ ws.drop (j + 1) := by
  obtain ⟨hj, e⟩ := List.getElem?_eq_some_iff.1 hx
  rw [← e, List.append_assoc]
  simp
omit [DecidableEq K] in
theorem later_no {ws : List (K × V)} {p : K} {j : Nat} (h : ∀ k y, j < k → ws[k]? = some y → y.1 ≠ p) : ∀ x ∈ (ws.drop (j + 1)).reverse, x.1 ≠ p := by
  intro x hx
  obtain ⟨i, hi, rfl⟩ := List.getElem_of_mem (List.mem_reverse.1 hx)
  refine h (j + 1 + i) _ (by omega) ?_
  rw [← List.getElem?_drop]
  exact List.getElem?_eq_getElem hi
theorem newV_some {ws : List (K × V)} {p : K} {j : Nat} {x : K × V} (hx : ws[j]? = some x) (hp : x.1 = p) (h : ∀ k y, j < k → ws[k]? = some y → y.1 ≠ p) : newV ws p = some x.2 := by
  obtain ⟨x1, x2⟩ := x
  subst hp
  unfold newV
  rw [split_at hx, List.reverse_append, List.reverse_append, mget_app, mget_no (later_no h)]
  simp [mget]
end
theorem xsm_get (l : List (Pl × Rw)) (p : Pl) : mget (xsm l) p = (mget l p).map (·.xs) := by
  induction l with
  | nil => rfl
  | cons x r ih =>
    obtain ⟨k', v⟩ := x
    simp only [xsm, List.map_cons, mget] at ih ⊢
    by_cases h : p = k'
    · simp [h]
    · simp [h, ih]
theorem xsm_rev (l : List (Pl × Rw)) : xsm l.reverse = (xsm l).reverse := by simp [xsm]
theorem xsm_newV (l : List (Pl × Rw)) (p : Pl) : newV (xsm l) p = (newV l p).map (·.xs) := by
  unfold newV
  rw [← xsm_rev, xsm_get]
theorem xsm_len (l : List (Pl × Rw)) : (xsm l).length = l.length := by simp [xsm]
/-- what a sector holds -/
def heldS (s : RA) (p : Pl) : List UInt8 := match newV s.waits p with
  | some b => b
  | none => (mget s.last p).getD (List.replicate 128 0)
theorem heldS_len {s : RA} (h : s.ok) (p : Pl) : (heldS s p).length = 128 := by
  unfold heldS
  cases h1 : newV s.waits p with
  | some b => exact h.lw _ (List.mem_reverse.1 (mget_mem h1))
  | none =>
    cases h2 : mget s.last p with
    | some b => exact h.ll _ (mget_mem h2)
    | none => rfl
/-! what a sector holds -/
theorem held_calls {A : Nat → Prop} {w : World} {R : Nat} {s : RA} (h : RK A w R s) (p : Pl) :
    Calls Tryd.prog 48 [ptr R, kpl p].toArray w (Ret fun v w' => (∃ r, v = vsl r ∧ RSl (· < w'.heap.size) w' eb r.ao r.cap r.xs ∧ r.xs = heldS s p) ∧ Chg Nob w w') := by
  obtain ⟨m, ga, gc, wa, wc, ws, ls, hB, hI, hls, hws⟩ := h.ex
  have hw := Chg.refl Nob w
  obtain ⟨pd, pa⟩ := p
  refine Calls.of_WC Tryd.func48 rfl Tryd.ntmps48 (by simp) ?_
  refine WC.seq (WC.region (?_))
  refine WL.box rfl rfl ?_
  intro g1 w1 hge1 hlt1 hP k1
  replace hP : Blk w1 g1 90 [vi pd, vi pa] := hP
  have zs_k1 := k1.size
  replace hB := hB.pure k1
  replace hI := hI.pure k1
  replace hw := hw.pure k1
  refine WL.assign rfl rfl (WL.nil (WX.then_normal (WC.seq (WC.seq (WC.region (WL.move rfl rfl (WL.loadsB Tryd.isAgg90 Tryd.sizeOf90 hP rfl (by simp; done) rfl (?_))))))))
  refine WL.call eg_49 rfl rfl (newest_calls hB hI.waits (pd, pa)) ?_
  rintro v w2 ⟨⟨ao, rfl, hnew⟩, k2⟩
  have zs_k2 := k2.size
  replace hB := hB.pure k2
  replace hI := hI.pure k2
  replace hw := hw.pure k2
  replace hP := hP.pure k2
  refine WL.assign rfl rfl (WL.nil (WX.then_normal (WC.seq (WC.region (WL.move rfl rfl (?_))))))
  refine WL.ptrSome Tryd.underlying96 rfl rfl rfl ?_
  rcases hnew with ⟨rfl, hno⟩ | ⟨j, x, g, hx, hxp, hno, rfl, rfl⟩
  ·
    refine WL.nil (WX.then_normal (WC.cond_false rfl (WC.skip (WX.then_normal (WC.seq (WC.seq (?_)))))))
    refine WC.draw (Nob) [0, 1, 2, 3, 4, 5, 6, 7, 8, 9, 10] [] mixed rfl rfl (fun wd_1 kd_1 zd_1 => ?_)
    have zs_kd_1 := kd_1.size
    replace hB := hB.pure kd_1
    replace hI := hI.pure kd_1
    replace hw := hw.pure kd_1
    replace hP := hP.pure kd_1
    apply DQ.step (E' := [(0, _)])
    case ho => rfl
    case hs => exact ⟨rfl, trivial⟩
    case hk => rfl
    case h1 =>
      intro wq_2 kq_2
      refine WL.move rfl rfl (?_)
      refine WL.nil ?_
      exact WX.one ⟨rfl, by exact Chg.refl _ _⟩
    apply DQ.step (E' := [(18, _)])
    case ho => rfl
    case hs => exact ⟨rfl, trivial⟩
    case hk => rfl
    case h1 =>
      intro wq_3 kq_3
      refine WL.nilCheck rfl rfl (?_)
      refine WL.nil ?_
      exact WX.one ⟨rfl, by exact Chg.refl _ _⟩
    apply DQ.step (E' := [(19, _)])
    case ho => rfl
    case hs => exact ⟨rfl, trivial⟩
    case hk => rfl
    case h1 =>
      intro wq_4 kq_4
      refine WL.fieldAddr (fld_86_2) rfl rfl (?_)
      refine WL.nil ?_
      exact WX.one ⟨rfl, by exact Chg.refl _ _⟩
    apply DQ.step (E' := [(20, _)])
    case ho => rfl
    case hs => exact ⟨rfl, trivial⟩
    case hk => rfl
    case h1 =>
      intro wq_5 kq_5
      have zs_kq_5 := kq_5.size
      replace hB := hB.pure kq_5
      replace hI := hI.pure kq_5
      replace hw := hw.pure kq_5
      replace hP := hP.pure kq_5
      refine WL.loadB Tryd.isAgg83 hB rfl rfl rfl (?_)
      refine WL.nil ?_
      exact WX.one ⟨rfl, by exact Chg.refl _ _⟩
    apply DQ.step (E' := [(3, _)])
    case ho => rfl
    case hs => exact ⟨rfl, trivial⟩
    case hk => rfl
    case h1 =>
      intro wq_6 kq_6
      have zs_kq_6 := kq_6.size
      replace hB := hB.pure kq_6
      replace hI := hI.pure kq_6
      replace hw := hw.pure kq_6
      replace hP := hP.pure kq_6
      refine WL.loadsB Tryd.isAgg90 Tryd.sizeOf90 hP rfl (by simp; done) rfl (?_)
      refine WL.nil ?_
      exact WX.one ⟨rfl, by exact Chg.refl _ _⟩
    apply DQ.step (E' := [(21, _), (22, _)])
    case ho => rfl
    case hs => exact ⟨rfl, rfl, trivial⟩
    case hk => rfl
    case h1 =>
      intro wq_7 kq_7
      have zs_kq_7 := kq_7.size
      replace hB := hB.pure kq_7
      replace hI := hI.pure kq_7
      replace hw := hw.pure kq_7
      replace hP := hP.pure kq_7
      refine WL.mlookup plOk Tryd.underlying83 Tryd.zeroValue26 hI.map rfl (show _ = some (kpl (pd, pa)) from rfl) rfl ?_
      rw [show (mget ls (pd, pa)).isSome = decide ((mget ls (pd, pa)).isSome = true) from by simp]
      refine WL.nil ?_
      exact WX.one ⟨rfl, by exact Chg.refl _ _⟩
    apply DQ.step (E' := [(23, _)])
    case ho => rfl
    case hs => exact ⟨rfl, trivial⟩
    case hk => rfl
    case h1 =>
      intro wq_8 kq_8
      refine WL.move rfl rfl (?_)
      refine WL.nil ?_
      exact WX.one ⟨rfl, by exact Chg.refl _ _⟩
    apply DQ.step (E' := [(17, _)])
    case ho => rfl
    case hs => exact ⟨rfl, trivial⟩
    case hk => rfl
    case h1 =>
      intro wq_9 kq_9
      refine WL.extract rfl rfl rfl (?_)
      refine WL.nil ?_
      exact WX.one ⟨rfl, by exact Chg.refl _ _⟩
    apply DQ.step (E' := [(17, _)])
    case ho => rfl
    case hs => exact ⟨rfl, trivial⟩
    case hk => rfl
    case h1 =>
      intro wq_10 kq_10
      refine WL.extract rfl rfl rfl (?_)
      refine WL.nil ?_
      exact WX.one ⟨rfl, by exact Chg.refl _ _⟩
    apply DQ.step (E' := [(24, _)])
    case ho => rfl
    case hs => exact ⟨rfl, trivial⟩
    case hk => rfl
    case h1 =>
      intro wq_11 kq_11
      refine WL.assign rfl rfl (?_)
      refine WL.nil ?_
      exact WX.one ⟨rfl, by exact Chg.refl _ _⟩
    apply DQ.step (E' := [(25, _)])
    case ho => rfl
    case hs => exact ⟨rfl, trivial⟩
    case hk => rfl
    case h1 =>
      intro wq_12 kq_12
      refine WL.assign rfl rfl (?_)
      refine WL.nil ?_
      exact WX.one ⟨rfl, by exact Chg.refl _ _⟩
    refine DQ.done (fun _ => ?_)
    refine DL.done (fun we_13 ke_13 => ?_)
    have zs_ke_13 := ke_13.size
    replace hB := hB.pure ke_13
    replace hI := hI.pure ke_13
    replace hw := hw.pure ke_13
    replace hP := hP.pure ke_13
    refine WX.then_normal (WC.seq (WC.region (WL.move rfl rfl (WL.nil (WX.then_normal (?_))))))
    first | refine WC.cond_dec rfl (fun hc26 => ?_) (fun hc26 => ?_) | refine WC.cond_split rfl (fun hc26 => ?_) (fun hc26 => ?_)
    ·
      refine WC.seq (WC.region (WL.move rfl rfl (WL.assign rfl rfl (WL.nil (WX.then_normal (WC.ret (WX.then_ret (?_))))))))
      refine WX.ret1 (.inl rfl) Tryd.results48 rfl ?_
      first
        | exact ⟨_, rfl, ⟨x.2, rfl, (hI.byw x (List.mem_of_getElem? hx)).rsl.old, by rw [heldS, hws, xsm_newV, newV_some hx hxp hno]; rfl⟩, hw⟩
        | (obtain ⟨r, hr⟩ := Option.isSome_iff_exists.1 hc26
           simp only [hr]
           exact ⟨_, rfl, ⟨r, rfl, (hI.byl _ (mget_mem hr)).rsl.old, by rw [heldS, hws, xsm_newV, newV_none hno, hls, xsm_get, hr]; rfl⟩, hw⟩)
        | (have hr : mget ls (pd, pa) = none := by simpa using hc26
           exact ⟨_, rfl, ⟨⟨some ⟨g3, 0, none⟩, 128, List.replicate 128 0⟩, rfl, hm.rsl.old, by rw [heldS, hws, xsm_newV, newV_none hno, hls, xsm_get, hr]; rfl⟩, hw⟩)
    ·
      refine WC.skip (WX.then_normal (WC.seq (WC.region (?_))))
      refine WL.make (e := eb) (0 : UInt8) 128 128 Tryd.underlying26 info_5 rfl rfl rfl ⟨rfl, rfl, Nat.le_refl _⟩ (by decide) rfl ?_
      intro g3 w3 hm k3 z3 eg3
      have zs_k3 := k3.size
      replace hB := hB.pure k3
      replace hI := hI.pure k3
      replace hw := hw.pure k3
      replace hP := hP.pure k3
      refine WL.assign rfl rfl (WL.nil (WX.then_normal (WC.ret (?_))))
      refine WX.ret1 (.inl rfl) Tryd.results48 rfl ?_
      first
        | exact ⟨_, rfl, ⟨x.2, rfl, (hI.byw x (List.mem_of_getElem? hx)).rsl.old, by rw [heldS, hws, xsm_newV, newV_some hx hxp hno]; rfl⟩, hw⟩
        | (obtain ⟨r, hr⟩ := Option.isSome_iff_exists.1 hc26
           simp only [hr]
           exact ⟨_, rfl, ⟨r, rfl, (hI.byl _ (mget_mem hr)).rsl.old, by rw [heldS, hws, xsm_newV, newV_none hno, hls, xsm_get, hr]; rfl⟩, hw⟩)
        | (have hr : mget ls (pd, pa) = none := by simpa using hc26
           exact ⟨_, rfl, ⟨⟨some ⟨g3, 0, none⟩, 128, List.replicate 128 0⟩, rfl, hm.rsl.old, by rw [heldS, hws, xsm_newV, newV_none hno, hls, xsm_get, hr]; rfl⟩, hw⟩)
  ·
    refine WL.nil (WX.then_normal (WC.cond_true rfl (WC.seq (WC.region (WL.move rfl rfl (WL.nilCheck rfl rfl (WL.fieldAddr (fld_92_1) rfl rfl (?_))))))))
    refine WL.load Tryd.isAgg26 rfl (hI.waits.rsl.cellsAt hx 2 _ rfl) rfl ?_
    refine WL.assign rfl rfl (WL.nil (WX.then_normal (WC.ret (WX.then_ret (?_)))))
    refine WX.ret1 (.inl rfl) Tryd.results48 rfl ?_
    first
      | exact ⟨_, rfl, ⟨x.2, rfl, (hI.byw x (List.mem_of_getElem? hx)).rsl.old, by rw [heldS, hws, xsm_newV, newV_some hx hxp hno]; rfl⟩, hw⟩
      | (obtain ⟨r, hr⟩ := Option.isSome_iff_exists.1 hc26
         simp only [hr]
         exact ⟨_, rfl, ⟨r, rfl, (hI.byl _ (mget_mem hr)).rsl.old, by rw [heldS, hws, xsm_newV, newV_none hno, hls, xsm_get, hr]; rfl⟩, hw⟩)
      | (have hr : mget ls (pd, pa) = none := by simpa using hc26
         exact ⟨_, rfl, ⟨⟨some ⟨g3, 0, none⟩, 128, List.replicate 128 0⟩, rfl, hm.rsl.old, by rw [heldS, hws, xsm_newV, newV_none hno, hls, xsm_get, hr]; rfl⟩, hw⟩)
/-! bytes of one's own -/
theorem bclone_calls {S : Nat → Prop} {w : World} {ao : Option Addr} {c : Nat} {b : List UInt8} (hr : RSl S w eb ao c b) (hl : b.length = 128) :
    Calls Tryd.prog 47 [.slice ao b.length c].toArray w (Ret fun v w' => (∃ (g c' : Nat), v = .slice (some ⟨g, 0, none⟩) b.length c' ∧ Row (· = g) w' 5 eb (some ⟨g, 0, none⟩) c' b ∧ w.heap.size ≤ g ∧ g < w'.heap.size) ∧ Chg Nob w w') := by
  replace hr := hr.old
  have hw := Chg.refl Nob w
  have hlt := hr.lt
  refine Calls.of_WC Tryd.func47 rfl Tryd.ntmps47 (by simp) ?_
  refine WC.seq (WC.region (WL.assign rfl rfl (WL.nil (WX.then_normal (WC.seq (WC.seq (WC.region (?_))))))))
  refine WL.move rfl rfl (?_)
  refine WL.isNil? Tryd.underlying26 rfl rfl rfl (fun h4 => ?_) (fun h4 => ?_)
  ·
    subst h4
    have hn := hr.none_nil
    rw [hn] at hl
    cases hl
  ·
    refine WL.nil (WX.then_normal (WC.cond_false rfl (WC.skip (WX.then_normal (WC.seq (WC.region (?_)))))))
    refine WL.build (e := eb) [] Tryd.underlying26 Tryd.sizeOf5 Tryd.zeroValue5 rfl rfl rfl (by simp [Value.cells]; done) (by decide) rfl ?_
    intro a_hq w_hq hq l_hq z_hq k_hq
    have zs_k_hq := k_hq.size
    replace hr := hr.pure k_hq
    replace hw := hw.pure k_hq
    refine WL.move rfl rfl (?_)
    refine WL.append0 (e := eb) info_5 rfl Tryd.underlying26 rfl rfl hq (hr.src Tryd.underlying26) (by omega) (by constructor <;> omega) rfl ?_
    intro g2 c2 w2 hb2 k2 eg2 z2
    have zs_k2 := k2.size
    replace hr := hr.pure k2
    replace hw := hw.pure k2
    refine WL.assign rfl rfl (WL.nil (WX.then_normal (WC.ret (?_))))
    refine WX.ret1 (.inl rfl) Tryd.results47 rfl ?_
    exact ⟨_, rfl, ⟨g2, c2, rfl, hb2, by omega, by omega⟩, hw⟩
end Go.Proofs.YtjeldcjchipdgaaDoor
