import Derived.Test.YtfkaioldfmapjaaPp
namespace Go.Proofs.Ytfkaioldfmapjaa
open Go.RowKit Go.HL

def zeroP : PtrV := ⟨0, 0, 0, ⟨#[]⟩⟩
def kinds4 (i0 i1 i2 i3 : Item) : Prop := i0.kind = 1 ∧ i1.kind = 1 ∧ i2.kind = 1 ∧ i3.kind = 2
def ptr4 (i0 i1 i2 i3 : Item) : PtrV := ⟨i0.n, i1.n, i2.n, i3.s⟩
def unpR (s : ByteArray) : PtrV × Int :=
  match decL s.data.toList with
  | [i0, i1, i2, i3] => if decE s.data.toList = 0 ∧ (i0.kind = 1 ∧ i1.kind = 1 ∧ i2.kind = 1 ∧ i3.kind = 2) ∧ rightP (ptr4 i0 i1 i2 i3) then (ptr4 i0 i1 i2 i3, 0) else (zeroP, 2)
  | _ => (zeroP, 2)
theorem unpR_four {s : ByteArray} {i0 i1 i2 i3 : Item} (h : decL s.data.toList = [i0, i1, i2, i3]) : unpR s = if decE s.data.toList = 0 ∧ (i0.kind = 1 ∧ i1.kind = 1 ∧ i2.kind = 1 ∧ i3.kind = 2) ∧ rightP (ptr4 i0 i1 i2 i3) then (ptr4 i0 i1 i2 i3, 0) else (zeroP, 2) := by
  unfold unpR
  rw [h]
theorem unpR_bad {s : ByteArray} (h : decE s.data.toList ≠ 0 ∨ (decL s.data.toList).length ≠ 4) : unpR s = (zeroP, 2) := by
  unfold unpR
  split
  · rename_i hl
    rcases h with h | h
    · rw [if_neg (fun x => h x.1)]
    · rw [hl] at h; exact absurd rfl h
  · rfl
theorem four {l : List Item} (h : l.length = 4) : ∃ i0 i1 i2 i3, l = [i0, i1, i2, i3] := by
  match l, h with
  | [a, b, c, d], _ => exact ⟨a, b, c, d, rfl⟩
theorem good1 {i : Item} (h : Good i) (k : i.kind = 1) : i = ⟨1, i.n, ⟨#[]⟩⟩ := by
  have h2 := h.2.1
  simp only [okI, decide_eq_true_eq] at h2
  obtain ⟨a, b, c⟩ := i
  simp only at k h2 ⊢
  subst k
  rcases h2 with ⟨_, rfl⟩ | ⟨h, _⟩
  · rfl
  · cases h
theorem good2 {i : Item} (h : Good i) (k : i.kind = 2) : i = ⟨2, 0, i.s⟩ := by
  have h2 := h.2.1
  simp only [okI, decide_eq_true_eq] at h2
  obtain ⟨a, b, c⟩ := i
  simp only at k h2 ⊢
  subst k
  rcases h2 with ⟨h, _⟩ | ⟨_, rfl⟩
  · cases h
  · rfl
theorem decE_items {b : List UInt8} (h : decE b = 0) : ∀ i ∈ decL b, Good i := (dec_spec b.length b (Nat.le_refl _) 0 (decL b) (by omega) (decE_zero h)).2.1
theorem four_wf {b : List UInt8} {i0 i1 i2 i3 : Item} (h : decE b = 0) (hL : decL b = [i0, i1, i2, i3]) : WfP (ptr4 i0 i1 i2 i3) := by
  have hg := decE_items h
  rw [hL] at hg
  exact ⟨(hg i0 (by simp)).2.2, (hg i1 (by simp)).2.2, (hg i2 (by simp)).2.2⟩
theorem unp_text {s : ByteArray} {i0 i1 i2 i3 : Item} (h0 : decE s.data.toList = 0) (hL : decL s.data.toList = [i0, i1, i2, i3]) (hr : rightP (ptr4 i0 i1 i2 i3)) : ptrS (ptr4 i0 i1 i2 i3) = s ↔ (i0.kind = 1 ∧ i1.kind = 1 ∧ i2.kind = 1 ∧ i3.kind = 2) := by
  have hg := decE_items h0
  have hw := four_wf h0 hL
  obtain ⟨he, hs⟩ := decE_good h0
  have hp := pit_check hr hw
  rw [hL] at hg hs he
  rw [ptrS, if_pos hr]
  constructor
  · intro h
    have h1 : encAll (pit (ptr4 i0 i1 i2 i3)) = encAll [i0, i1, i2, i3] := by rw [hs, ← h]
    have h2 := encAll_inj hp he (fun i hi => (pit_good hr hw i hi).2.2) (fun i hi => (hg i hi).2.2) h1
    simp only [pit, List.cons.injEq, and_true] at h2
    obtain ⟨e0, e1, e2, e3⟩ := h2
    refine ⟨?_, ?_, ?_, ?_⟩
    · rw [← e0]
    · rw [← e1]
    · rw [← e2]
    · rw [← e3]
  · rintro ⟨k0, k1, k2, k3⟩
    have h1 : pit (ptr4 i0 i1 i2 i3) = [i0, i1, i2, i3] := by
      have e0 := good1 (hg i0 (by simp)) k0
      have e1 := good1 (hg i1 (by simp)) k1
      have e2 := good1 (hg i2 (by simp)) k2
      have e3 := good2 (hg i3 (by simp)) k3
      simp only [pit, ptr4]
      rw [← e0, ← e1, ← e2, ← e3]
    rw [h1, hs]
theorem unp_ptr {p : PtrV} (hr : rightP p) (hw : WfP p) : unpR (ptrS p) = (p, 0) := by
  have e : (ptrS p).data.toList = encAll (pit p) := by rw [ptrS, if_pos hr]
  have hp := pit_check hr hw
  have hL : decL (ptrS p).data.toList = pit p := by rw [e]; exact decL_enc hp (fun i hi => (pit_good hr hw i hi).2.2)
  have hE : decE (ptrS p).data.toList = 0 := by rw [e]; exact decE_enc hp (fun i hi => (pit_good hr hw i hi).2.2)
  have h4 := unpR_four (s := ptrS p) (i0 := ⟨1, p.a, ⟨#[]⟩⟩) (i1 := ⟨1, p.z, ⟨#[]⟩⟩) (i2 := ⟨1, p.b, ⟨#[]⟩⟩) (i3 := ⟨2, 0, p.s⟩) hL
  rw [h4, if_pos ⟨hE, ⟨rfl, rfl, rfl, rfl⟩, hr⟩]
  rfl

theorem unptr_calls (s : ByteArray) (w : World) (hs : s.size ≤ 140737488351232) : Calls Try.prog 27 [.string s].toArray w (Ret fun v w' => v = .tuple #[.agg (ept.f (unpR s).1).toArray, vi (unpR s).2] ∧ Chg Nob w w') := by
  have kk := Chg.refl Nob w
  refine Calls.of_WC Try.func27 rfl Try.ntmps27 (by simp) ?_
  refine WC.seq (WC.region (?_))
  refine WL.alloc Try.zeroValue49 rfl ?_
  intro g_1 w_1 hge_1 hlt_1 hb_1 k_1
  have zs_k_1 := k_1.size
  replace kk := kk.pure k_1
  refine WL.assign rfl rfl (WL.nil (WX.then_normal (WC.seq (WC.region (WL.move rfl rfl (?_))))))
  refine WL.toBytes Try.underlying9 Try.underlying24 Try.underlying5 rfl (by omega) rfl ?_
  intro a_hb c_hb w_hb hb k_hb z_hb
  have zs_k_hb := k_hb.size
  replace kk := kk.pure k_hb
  replace hb_1 := hb_1.pure k_hb
  have hb2 := hb.rsl.old
  refine WL.call eg_17 rfl rfl (decode_calls' hb2 (by simpa using hs)) ?_
  rintro v w4 ⟨⟨ak, ck, rfl, hk⟩, k4⟩
  have zs_k4 := k4.size
  replace kk := kk.pure k4
  replace hb_1 := hb_1.pure k4
  replace hk := hk.lt
  refine WL.move rfl rfl (WL.extract rfl rfl rfl (WL.extract rfl rfl rfl (WL.assign rfl rfl (WL.assign rfl rfl (WL.nil (WX.then_normal (WC.seq (?_))))))))
  refine WC.seq (WC.region (WL.move rfl rfl (?_)))
  refine WL.neq? rfl rfl rfl (fun h16 => ?_) (fun h16 => ?_)
  ·
    refine WL.move rfl rfl (WL.pass rfl rfl rfl rfl (WL.pass rfl rfl rfl rfl (WL.pass rfl rfl rfl rfl (WL.pickT rfl rfl rfl (WL.move rfl rfl (WL.pass rfl rfl rfl rfl (WL.pass rfl rfl rfl rfl (?_))))))))
    refine WL.pass rfl rfl rfl rfl (WL.pass rfl rfl rfl rfl (WL.pass rfl rfl rfl rfl (WL.pickT rfl rfl rfl (WL.move rfl rfl (WL.pass rfl rfl rfl rfl (WL.pass rfl rfl rfl rfl (WL.pass rfl rfl rfl rfl (?_))))))))
    refine WL.pass rfl rfl rfl rfl (WL.pass rfl rfl rfl rfl (WL.pickT rfl rfl rfl (WL.move rfl rfl (WL.pass rfl rfl rfl rfl (WL.pass rfl rfl rfl rfl (WL.pass rfl rfl rfl rfl (WL.pass rfl rfl rfl rfl (?_))))))))
    refine WL.pass rfl rfl rfl rfl (WL.pickT rfl rfl rfl (WL.move rfl rfl (WL.pass rfl rfl rfl rfl (WL.pass rfl rfl rfl rfl (WL.pass rfl rfl rfl rfl (WL.pass rfl rfl rfl rfl (WL.pass rfl rfl rfl rfl (?_))))))))
    refine WL.pickT rfl rfl rfl (WL.nil (WX.then_normal (WC.cond_true rfl (WC.seq (WC.region (WL.bld rfl (bld_49_z) rfl (?_)))))))
    refine WL.stores Try.sizeOf49 hb_1 rfl rfl rfl (by first | exact Enc.one _ _ | (simp [Value.oneCell']; done) | (simp [Value.oneCell', Value.cells]; done)) (Nat.le_of_ble_eq_true rfl) rfl ?_
    intro w_2 hs_2 hn_2 k_2
    have zs_k_2 := k_2.size
    replace kk := kk.chg k_2 (by first | (intro h1; have h2 : _ = _ := h1; exfalso; omega) | (intros; exfalso; (try dsimp only at *); omega) | (intro b h1 h2 h3; exfalso; have h4 := h3.2; (try dsimp only at *); omega) | (intro h1; exfalso; have h4 := h1.2; (try dsimp only at *); omega) | (intro x h1 h2; exfalso; have h4 := h2.2; (try dsimp only at *); omega))
    replace hk := hk.chg k_2 (by first | (intro h1; have h2 : _ = _ := h1; exfalso; omega) | (intros; exfalso; (try dsimp only at *); omega) | (intro b h1 h2 h3; exfalso; have h4 := h3.2; (try dsimp only at *); omega) | (intro h1; exfalso; have h4 := h1.2; (try dsimp only at *); omega) | (intro x h1 h2; exfalso; have h4 := h2.2; (try dsimp only at *); omega))
    replace hb_1 := hn_2
    refine WL.assign rfl rfl (WL.nil (WX.then_normal (WC.ret (WX.then_ret (?_)))))
    refine WX.ret2c (.inl rfl) Try.results27 Try.isAgg49 Try.sizeOf49 hb_1 rfl rfl rfl ?_
    first
      | (refine ⟨_, rfl, ?_, kk⟩
         rw [unpR_bad (by omega)]
         rfl)
      | (refine ⟨_, rfl, ?_, kk⟩
         rw [unpR_four hL, if_neg (by omega)]
         rfl)
      | (have hr : ¬ rightP (ptr4 i0 i1 i2 i3) := fun hr => h74 (by rw [ptrE, if_pos hr])
         refine ⟨_, rfl, ?_, kk⟩
         rw [unpR_four hL, if_neg (fun x => hr x.2.2)]
         rw [ptrE, if_neg hr]
         rfl)
      | (have hr : rightP (ptr4 i0 i1 i2 i3) := by
           by_cases hr : rightP (ptr4 i0 i1 i2 i3)
           ·
             exact hr
           ·
             rw [ptrE, if_neg hr] at h74; cases h74
         refine ⟨_, rfl, ?_, kk⟩
         rw [unpR_four hL, if_pos ⟨by omega, ⟨by omega, by omega, by omega, by omega⟩, hr⟩]
         rfl)
  ·
    refine WL.move rfl rfl (WL.want rfl rfl rfl (WL.move rfl rfl (WL.want rfl rfl rfl (WL.len Try.underlying22 rfl rfl (WL.want rfl rfl rfl (?_))))))
    refine WL.neq? rfl rfl rfl (fun h20 => ?_) (fun h20 => ?_)
    ·
      refine WL.pickF rfl rfl rfl (WL.move rfl rfl (WL.pass rfl rfl rfl rfl (WL.pass rfl rfl rfl rfl (WL.pass rfl rfl rfl rfl (WL.pass rfl rfl rfl rfl (WL.pass rfl rfl rfl rfl (WL.pickT rfl rfl rfl (?_))))))))
      refine WL.move rfl rfl (WL.pass rfl rfl rfl rfl (WL.pass rfl rfl rfl rfl (WL.pass rfl rfl rfl rfl (WL.pass rfl rfl rfl rfl (WL.pass rfl rfl rfl rfl (WL.pickT rfl rfl rfl (WL.move rfl rfl (?_))))))))
      refine WL.pass rfl rfl rfl rfl (WL.pass rfl rfl rfl rfl (WL.pass rfl rfl rfl rfl (WL.pass rfl rfl rfl rfl (WL.pass rfl rfl rfl rfl (WL.pickT rfl rfl rfl (WL.move rfl rfl (WL.pass rfl rfl rfl rfl (?_))))))))
      refine WL.pass rfl rfl rfl rfl (WL.pass rfl rfl rfl rfl (WL.pass rfl rfl rfl rfl (WL.pass rfl rfl rfl rfl (WL.pickT rfl rfl rfl (WL.nil (WX.then_normal (WC.cond_true rfl (?_))))))))
      refine WC.seq (WC.region (WL.bld rfl (bld_49_z) rfl (?_)))
      refine WL.stores Try.sizeOf49 hb_1 rfl rfl rfl (by first | exact Enc.one _ _ | (simp [Value.oneCell']; done) | (simp [Value.oneCell', Value.cells]; done)) (Nat.le_of_ble_eq_true rfl) rfl ?_
      intro w_2 hs_2 hn_2 k_2
      have zs_k_2 := k_2.size
      replace kk := kk.chg k_2 (by first | (intro h1; have h2 : _ = _ := h1; exfalso; omega) | (intros; exfalso; (try dsimp only at *); omega) | (intro b h1 h2 h3; exfalso; have h4 := h3.2; (try dsimp only at *); omega) | (intro h1; exfalso; have h4 := h1.2; (try dsimp only at *); omega) | (intro x h1 h2; exfalso; have h4 := h2.2; (try dsimp only at *); omega))
      replace hk := hk.chg k_2 (by first | (intro h1; have h2 : _ = _ := h1; exfalso; omega) | (intros; exfalso; (try dsimp only at *); omega) | (intro b h1 h2 h3; exfalso; have h4 := h3.2; (try dsimp only at *); omega) | (intro h1; exfalso; have h4 := h1.2; (try dsimp only at *); omega) | (intro x h1 h2; exfalso; have h4 := h2.2; (try dsimp only at *); omega))
      replace hb_1 := hn_2
      refine WL.assign rfl rfl (WL.nil (WX.then_normal (WC.ret (WX.then_ret (?_)))))
      refine WX.ret2c (.inl rfl) Try.results27 Try.isAgg49 Try.sizeOf49 hb_1 rfl rfl rfl ?_
      first
        | (refine ⟨_, rfl, ?_, kk⟩
           rw [unpR_bad (by omega)]
           rfl)
        | (refine ⟨_, rfl, ?_, kk⟩
           rw [unpR_four hL, if_neg (by omega)]
           rfl)
        | (have hr : ¬ rightP (ptr4 i0 i1 i2 i3) := fun hr => h74 (by rw [ptrE, if_pos hr])
           refine ⟨_, rfl, ?_, kk⟩
           rw [unpR_four hL, if_neg (fun x => hr x.2.2)]
           rw [ptrE, if_neg hr]
           rfl)
        | (have hr : rightP (ptr4 i0 i1 i2 i3) := by
             by_cases hr : rightP (ptr4 i0 i1 i2 i3)
             ·
               exact hr
             ·
               rw [ptrE, if_neg hr] at h74; cases h74
           refine ⟨_, rfl, ?_, kk⟩
           rw [unpR_four hL, if_pos ⟨by omega, ⟨by omega, by omega, by omega, by omega⟩, hr⟩]
           rfl)
    ·
      refine WL.pickF rfl rfl rfl (WL.move rfl rfl (WL.want rfl rfl rfl (WL.move rfl rfl (WL.want rfl rfl rfl (?_)))))
      obtain ⟨i0, i1, i2, i3, hL⟩ := four (l := decL s.data.toList) (by omega)
      have hx0 : (decL s.data.toList)[0]? = some i0 := by rw [hL]; rfl
      have hx1 : (decL s.data.toList)[1]? = some i1 := by rw [hL]; rfl
      have hx2 : (decL s.data.toList)[2]? = some i2 := by rw [hL]; rfl
      have hx3 : (decL s.data.toList)[3]? = some i3 := by rw [hL]; rfl
      obtain ⟨bp, op, rfl⟩ := hk.rsl.place hx0
      refine WL.indexT Try.underlying22 Try.sizeOf37 hk.rsl rfl rfl ⟨hx0, rfl⟩ rfl ?_
      intro b_2 o_2 hc_2
      refine WL.want rfl rfl rfl (WL.fieldAddr (fld_37_0) rfl rfl (WL.want rfl rfl rfl (WL.load Try.isAgg3 rfl (hc_2 _ _ rfl) rfl (WL.want rfl rfl rfl (?_)))))
      refine WL.neq? rfl rfl rfl (fun h27 => ?_) (fun h27 => ?_)
      ·
        refine WL.pickF rfl rfl rfl (WL.move rfl rfl (WL.pass rfl rfl rfl rfl (WL.pass rfl rfl rfl rfl (WL.pass rfl rfl rfl rfl (WL.pass rfl rfl rfl rfl (WL.pass rfl rfl rfl rfl (WL.pickT rfl rfl rfl (?_))))))))
        refine WL.move rfl rfl (WL.pass rfl rfl rfl rfl (WL.pass rfl rfl rfl rfl (WL.pass rfl rfl rfl rfl (WL.pass rfl rfl rfl rfl (WL.pass rfl rfl rfl rfl (WL.pickT rfl rfl rfl (WL.move rfl rfl (?_))))))))
        refine WL.pass rfl rfl rfl rfl (WL.pass rfl rfl rfl rfl (WL.pass rfl rfl rfl rfl (WL.pass rfl rfl rfl rfl (WL.pass rfl rfl rfl rfl (WL.pickT rfl rfl rfl (WL.nil (WX.then_normal (?_))))))))
        refine WC.cond_true rfl (WC.seq (WC.region (WL.bld rfl (bld_49_z) rfl (?_))))
        refine WL.stores Try.sizeOf49 hb_1 rfl rfl rfl (by first | exact Enc.one _ _ | (simp [Value.oneCell']; done) | (simp [Value.oneCell', Value.cells]; done)) (Nat.le_of_ble_eq_true rfl) rfl ?_
        intro w_3 hs_3 hn_3 k_3
        have zs_k_3 := k_3.size
        replace kk := kk.chg k_3 (by first | (intro h1; have h2 : _ = _ := h1; exfalso; omega) | (intros; exfalso; (try dsimp only at *); omega) | (intro b h1 h2 h3; exfalso; have h4 := h3.2; (try dsimp only at *); omega) | (intro h1; exfalso; have h4 := h1.2; (try dsimp only at *); omega) | (intro x h1 h2; exfalso; have h4 := h2.2; (try dsimp only at *); omega))
        replace hk := hk.chg k_3 (by first | (intro h1; have h2 : _ = _ := h1; exfalso; omega) | (intros; exfalso; (try dsimp only at *); omega) | (intro b h1 h2 h3; exfalso; have h4 := h3.2; (try dsimp only at *); omega) | (intro h1; exfalso; have h4 := h1.2; (try dsimp only at *); omega) | (intro x h1 h2; exfalso; have h4 := h2.2; (try dsimp only at *); omega))
        replace hb_1 := hn_3
        refine WL.assign rfl rfl (WL.nil (WX.then_normal (WC.ret (WX.then_ret (?_)))))
        refine WX.ret2c (.inl rfl) Try.results27 Try.isAgg49 Try.sizeOf49 hb_1 rfl rfl rfl ?_
        first
          | (refine ⟨_, rfl, ?_, kk⟩
             rw [unpR_bad (by omega)]
             rfl)
          | (refine ⟨_, rfl, ?_, kk⟩
             rw [unpR_four hL, if_neg (by omega)]
             rfl)
          | (have hr : ¬ rightP (ptr4 i0 i1 i2 i3) := fun hr => h74 (by rw [ptrE, if_pos hr])
             refine ⟨_, rfl, ?_, kk⟩
             rw [unpR_four hL, if_neg (fun x => hr x.2.2)]
             rw [ptrE, if_neg hr]
             rfl)
          | (have hr : rightP (ptr4 i0 i1 i2 i3) := by
               by_cases hr : rightP (ptr4 i0 i1 i2 i3)
               ·
                 exact hr
               ·
                 rw [ptrE, if_neg hr] at h74; cases h74
             refine ⟨_, rfl, ?_, kk⟩
             rw [unpR_four hL, if_pos ⟨by omega, ⟨by omega, by omega, by omega, by omega⟩, hr⟩]
             rfl)
      ·
        refine WL.pickF rfl rfl rfl (WL.move rfl rfl (WL.want rfl rfl rfl (WL.move rfl rfl (WL.want rfl rfl rfl (?_)))))
        refine WL.indexT Try.underlying22 Try.sizeOf37 hk.rsl rfl rfl ⟨hx1, rfl⟩ rfl ?_
        intro b_3 o_3 hc_3
        refine WL.want rfl rfl rfl (WL.fieldAddr (fld_37_0) rfl rfl (WL.want rfl rfl rfl (WL.load Try.isAgg3 rfl (hc_3 _ _ rfl) rfl (WL.want rfl rfl rfl (?_)))))
        refine WL.neq? rfl rfl rfl (fun h34 => ?_) (fun h34 => ?_)
        ·
          refine WL.pickF rfl rfl rfl (WL.move rfl rfl (WL.pass rfl rfl rfl rfl (WL.pass rfl rfl rfl rfl (WL.pass rfl rfl rfl rfl (WL.pass rfl rfl rfl rfl (WL.pass rfl rfl rfl rfl (WL.pickT rfl rfl rfl (?_))))))))
          refine WL.move rfl rfl (WL.pass rfl rfl rfl rfl (WL.pass rfl rfl rfl rfl (WL.pass rfl rfl rfl rfl (WL.pass rfl rfl rfl rfl (WL.pass rfl rfl rfl rfl (WL.pickT rfl rfl rfl (WL.nil (?_))))))))
          refine WX.then_normal (WC.cond_true rfl (WC.seq (WC.region (WL.bld rfl (bld_49_z) rfl (?_)))))
          refine WL.stores Try.sizeOf49 hb_1 rfl rfl rfl (by first | exact Enc.one _ _ | (simp [Value.oneCell']; done) | (simp [Value.oneCell', Value.cells]; done)) (Nat.le_of_ble_eq_true rfl) rfl ?_
          intro w_4 hs_4 hn_4 k_4
          have zs_k_4 := k_4.size
          replace kk := kk.chg k_4 (by first | (intro h1; have h2 : _ = _ := h1; exfalso; omega) | (intros; exfalso; (try dsimp only at *); omega) | (intro b h1 h2 h3; exfalso; have h4 := h3.2; (try dsimp only at *); omega) | (intro h1; exfalso; have h4 := h1.2; (try dsimp only at *); omega) | (intro x h1 h2; exfalso; have h4 := h2.2; (try dsimp only at *); omega))
          replace hk := hk.chg k_4 (by first | (intro h1; have h2 : _ = _ := h1; exfalso; omega) | (intros; exfalso; (try dsimp only at *); omega) | (intro b h1 h2 h3; exfalso; have h4 := h3.2; (try dsimp only at *); omega) | (intro h1; exfalso; have h4 := h1.2; (try dsimp only at *); omega) | (intro x h1 h2; exfalso; have h4 := h2.2; (try dsimp only at *); omega))
          replace hb_1 := hn_4
          refine WL.assign rfl rfl (WL.nil (WX.then_normal (WC.ret (WX.then_ret (?_)))))
          refine WX.ret2c (.inl rfl) Try.results27 Try.isAgg49 Try.sizeOf49 hb_1 rfl rfl rfl ?_
          first
            | (refine ⟨_, rfl, ?_, kk⟩
               rw [unpR_bad (by omega)]
               rfl)
            | (refine ⟨_, rfl, ?_, kk⟩
               rw [unpR_four hL, if_neg (by omega)]
               rfl)
            | (have hr : ¬ rightP (ptr4 i0 i1 i2 i3) := fun hr => h74 (by rw [ptrE, if_pos hr])
               refine ⟨_, rfl, ?_, kk⟩
               rw [unpR_four hL, if_neg (fun x => hr x.2.2)]
               rw [ptrE, if_neg hr]
               rfl)
            | (have hr : rightP (ptr4 i0 i1 i2 i3) := by
                 by_cases hr : rightP (ptr4 i0 i1 i2 i3)
                 ·
                   exact hr
                 ·
                   rw [ptrE, if_neg hr] at h74; cases h74
               refine ⟨_, rfl, ?_, kk⟩
               rw [unpR_four hL, if_pos ⟨by omega, ⟨by omega, by omega, by omega, by omega⟩, hr⟩]
               rfl)
        ·
          refine WL.pickF rfl rfl rfl (WL.move rfl rfl (WL.want rfl rfl rfl (WL.move rfl rfl (WL.want rfl rfl rfl (?_)))))
          refine WL.indexT Try.underlying22 Try.sizeOf37 hk.rsl rfl rfl ⟨hx2, rfl⟩ rfl ?_
          intro b_4 o_4 hc_4
          refine WL.want rfl rfl rfl (WL.fieldAddr (fld_37_0) rfl rfl (WL.want rfl rfl rfl (WL.load Try.isAgg3 rfl (hc_4 _ _ rfl) rfl (WL.want rfl rfl rfl (?_)))))
          refine WL.neq? rfl rfl rfl (fun h41 => ?_) (fun h41 => ?_)
          ·
            refine WL.pickF rfl rfl rfl (WL.move rfl rfl (WL.pass rfl rfl rfl rfl (WL.pass rfl rfl rfl rfl (WL.pass rfl rfl rfl rfl (WL.pass rfl rfl rfl rfl (WL.pass rfl rfl rfl rfl (WL.pickT rfl rfl rfl (?_))))))))
            refine WL.nil (WX.then_normal (WC.cond_true rfl (WC.seq (WC.region (WL.bld rfl (bld_49_z) rfl (?_))))))
            refine WL.stores Try.sizeOf49 hb_1 rfl rfl rfl (by first | exact Enc.one _ _ | (simp [Value.oneCell']; done) | (simp [Value.oneCell', Value.cells]; done)) (Nat.le_of_ble_eq_true rfl) rfl ?_
            intro w_5 hs_5 hn_5 k_5
            have zs_k_5 := k_5.size
            replace kk := kk.chg k_5 (by first | (intro h1; have h2 : _ = _ := h1; exfalso; omega) | (intros; exfalso; (try dsimp only at *); omega) | (intro b h1 h2 h3; exfalso; have h4 := h3.2; (try dsimp only at *); omega) | (intro h1; exfalso; have h4 := h1.2; (try dsimp only at *); omega) | (intro x h1 h2; exfalso; have h4 := h2.2; (try dsimp only at *); omega))
            replace hk := hk.chg k_5 (by first | (intro h1; have h2 : _ = _ := h1; exfalso; omega) | (intros; exfalso; (try dsimp only at *); omega) | (intro b h1 h2 h3; exfalso; have h4 := h3.2; (try dsimp only at *); omega) | (intro h1; exfalso; have h4 := h1.2; (try dsimp only at *); omega) | (intro x h1 h2; exfalso; have h4 := h2.2; (try dsimp only at *); omega))
            replace hb_1 := hn_5
            refine WL.assign rfl rfl (WL.nil (WX.then_normal (WC.ret (WX.then_ret (?_)))))
            refine WX.ret2c (.inl rfl) Try.results27 Try.isAgg49 Try.sizeOf49 hb_1 rfl rfl rfl ?_
            first
              | (refine ⟨_, rfl, ?_, kk⟩
                 rw [unpR_bad (by omega)]
                 rfl)
              | (refine ⟨_, rfl, ?_, kk⟩
                 rw [unpR_four hL, if_neg (by omega)]
                 rfl)
              | (have hr : ¬ rightP (ptr4 i0 i1 i2 i3) := fun hr => h74 (by rw [ptrE, if_pos hr])
                 refine ⟨_, rfl, ?_, kk⟩
                 rw [unpR_four hL, if_neg (fun x => hr x.2.2)]
                 rw [ptrE, if_neg hr]
                 rfl)
              | (have hr : rightP (ptr4 i0 i1 i2 i3) := by
                   by_cases hr : rightP (ptr4 i0 i1 i2 i3)
                   ·
                     exact hr
                   ·
                     rw [ptrE, if_neg hr] at h74; cases h74
                 refine ⟨_, rfl, ?_, kk⟩
                 rw [unpR_four hL, if_pos ⟨by omega, ⟨by omega, by omega, by omega, by omega⟩, hr⟩]
                 rfl)
          ·
            refine WL.pickF rfl rfl rfl (WL.move rfl rfl (WL.want rfl rfl rfl (WL.move rfl rfl (WL.want rfl rfl rfl (?_)))))
            refine WL.indexT Try.underlying22 Try.sizeOf37 hk.rsl rfl rfl ⟨hx3, rfl⟩ rfl ?_
            intro b_5 o_5 hc_5
            refine WL.want rfl rfl rfl (WL.fieldAddr (fld_37_0) rfl rfl (WL.want rfl rfl rfl (WL.load Try.isAgg3 rfl (hc_5 _ _ rfl) rfl (WL.want rfl rfl rfl (?_)))))
            refine WL.neq? rfl rfl rfl (fun h48 => ?_) (fun h48 => ?_)
            ·
              refine WL.pickF rfl rfl rfl (WL.nil (WX.then_normal (WC.cond_true rfl (WC.seq (WC.region (WL.bld rfl (bld_49_z) rfl (?_)))))))
              refine WL.stores Try.sizeOf49 hb_1 rfl rfl rfl (by first | exact Enc.one _ _ | (simp [Value.oneCell']; done) | (simp [Value.oneCell', Value.cells]; done)) (Nat.le_of_ble_eq_true rfl) rfl ?_
              intro w_6 hs_6 hn_6 k_6
              have zs_k_6 := k_6.size
              replace kk := kk.chg k_6 (by first | (intro h1; have h2 : _ = _ := h1; exfalso; omega) | (intros; exfalso; (try dsimp only at *); omega) | (intro b h1 h2 h3; exfalso; have h4 := h3.2; (try dsimp only at *); omega) | (intro h1; exfalso; have h4 := h1.2; (try dsimp only at *); omega) | (intro x h1 h2; exfalso; have h4 := h2.2; (try dsimp only at *); omega))
              replace hk := hk.chg k_6 (by first | (intro h1; have h2 : _ = _ := h1; exfalso; omega) | (intros; exfalso; (try dsimp only at *); omega) | (intro b h1 h2 h3; exfalso; have h4 := h3.2; (try dsimp only at *); omega) | (intro h1; exfalso; have h4 := h1.2; (try dsimp only at *); omega) | (intro x h1 h2; exfalso; have h4 := h2.2; (try dsimp only at *); omega))
              replace hb_1 := hn_6
              refine WL.assign rfl rfl (WL.nil (WX.then_normal (WC.ret (WX.then_ret (?_)))))
              refine WX.ret2c (.inl rfl) Try.results27 Try.isAgg49 Try.sizeOf49 hb_1 rfl rfl rfl ?_
              first
                | (refine ⟨_, rfl, ?_, kk⟩
                   rw [unpR_bad (by omega)]
                   rfl)
                | (refine ⟨_, rfl, ?_, kk⟩
                   rw [unpR_four hL, if_neg (by omega)]
                   rfl)
                | (have hr : ¬ rightP (ptr4 i0 i1 i2 i3) := fun hr => h74 (by rw [ptrE, if_pos hr])
                   refine ⟨_, rfl, ?_, kk⟩
                   rw [unpR_four hL, if_neg (fun x => hr x.2.2)]
                   rw [ptrE, if_neg hr]
                   rfl)
                | (have hr : rightP (ptr4 i0 i1 i2 i3) := by
                     by_cases hr : rightP (ptr4 i0 i1 i2 i3)
                     ·
                       exact hr
                     ·
                       rw [ptrE, if_neg hr] at h74; cases h74
                   refine ⟨_, rfl, ?_, kk⟩
                   rw [unpR_four hL, if_pos ⟨by omega, ⟨by omega, by omega, by omega, by omega⟩, hr⟩]
                   rfl)
            ·
              refine WL.pickF rfl rfl rfl (WL.nil (WX.then_normal (WC.cond_false rfl (WC.skip (WX.then_normal (WC.seq (?_)))))))
              refine WC.draw (Nob) [0, 1, 2, 3, 4, 5, 6, 7, 8, 9, 10, 11, 12, 13, 14, 15, 16] [17, 18] mixed rfl rfl (fun wd_6 kd_6 zd_6 => ?_)
              have zs_kd_6 := kd_6.size
              replace kk := kk.pure kd_6
              replace hb_1 := hb_1.pure kd_6
              replace hk := hk.pure kd_6
              apply DQ.step (E' := [(4, _)])
              case ho => rfl
              case hs => exact ⟨rfl, trivial⟩
              case hk => rfl
              case h1 =>
                intro wq_8 kq_8
                refine WL.move rfl rfl (?_)
                refine WL.nil ?_
                exact WX.one ⟨rfl, by first | exact Chg.refl _ _ | assumption⟩
              apply DQ.step (E' := [(51, _)])
              case ho => rfl
              case hs => exact ⟨rfl, trivial⟩
              case hk => rfl
              case h1 =>
                intro wq_9 kq_9
                have zs_kq_9 := kq_9.size
                replace kk := kk.pure kq_9
                replace hb_1 := hb_1.pure kq_9
                replace hk := hk.pure kq_9
                refine WL.indexC hk.rsl Try.underlying22 Try.sizeOf37 rfl rfl ⟨hx0, rfl⟩ rfl ?_
                refine WL.nil ?_
                exact WX.one ⟨rfl, by first | exact Chg.refl _ _ | assumption⟩
              apply DQ.step (E' := [(52, _)])
              case ho => rfl
              case hs => exact ⟨rfl, trivial⟩
              case hk => rfl
              case h1 =>
                intro wq_10 kq_10
                refine WL.fieldAddr (fld_37_1) rfl rfl (?_)
                refine WL.nil ?_
                exact WX.one ⟨rfl, by first | exact Chg.refl _ _ | assumption⟩
              apply DQ.step (E' := [(53, _)])
              case ho => rfl
              case hs => exact ⟨rfl, trivial⟩
              case hk => rfl
              case h1 =>
                intro wq_11 kq_11
                have zs_kq_11 := kq_11.size
                replace kk := kk.pure kq_11
                replace hb_1 := hb_1.pure kq_11
                replace hk := hk.pure kq_11
                refine WL.load Try.isAgg3 rfl ((hk.rsl.cellsAt hx0) _ _ rfl) rfl (?_)
                refine WL.nil ?_
                exact WX.one ⟨rfl, by first | exact Chg.refl _ _ | assumption⟩
              apply DQ.step (E' := [(4, _)])
              case ho => rfl
              case hs => exact ⟨rfl, trivial⟩
              case hk => rfl
              case h1 =>
                intro wq_12 kq_12
                refine WL.move rfl rfl (?_)
                refine WL.nil ?_
                exact WX.one ⟨rfl, by first | exact Chg.refl _ _ | assumption⟩
              apply DQ.step (E' := [(55, _)])
              case ho => rfl
              case hs => exact ⟨rfl, trivial⟩
              case hk => rfl
              case h1 =>
                intro wq_13 kq_13
                have zs_kq_13 := kq_13.size
                replace kk := kk.pure kq_13
                replace hb_1 := hb_1.pure kq_13
                replace hk := hk.pure kq_13
                refine WL.indexC hk.rsl Try.underlying22 Try.sizeOf37 rfl rfl ⟨hx1, rfl⟩ rfl ?_
                refine WL.nil ?_
                exact WX.one ⟨rfl, by first | exact Chg.refl _ _ | assumption⟩
              apply DQ.step (E' := [(56, _)])
              case ho => rfl
              case hs => exact ⟨rfl, trivial⟩
              case hk => rfl
              case h1 =>
                intro wq_14 kq_14
                refine WL.fieldAddr (fld_37_1) rfl rfl (?_)
                refine WL.nil ?_
                exact WX.one ⟨rfl, by first | exact Chg.refl _ _ | assumption⟩
              apply DQ.step (E' := [(57, _)])
              case ho => rfl
              case hs => exact ⟨rfl, trivial⟩
              case hk => rfl
              case h1 =>
                intro wq_15 kq_15
                have zs_kq_15 := kq_15.size
                replace kk := kk.pure kq_15
                replace hb_1 := hb_1.pure kq_15
                replace hk := hk.pure kq_15
                refine WL.load Try.isAgg3 rfl ((hk.rsl.cellsAt hx1) _ _ rfl) rfl (?_)
                refine WL.nil ?_
                exact WX.one ⟨rfl, by first | exact Chg.refl _ _ | assumption⟩
              apply DQ.step (E' := [(4, _)])
              case ho => rfl
              case hs => exact ⟨rfl, trivial⟩
              case hk => rfl
              case h1 =>
                intro wq_16 kq_16
                refine WL.move rfl rfl (?_)
                refine WL.nil ?_
                exact WX.one ⟨rfl, by first | exact Chg.refl _ _ | assumption⟩
              apply DQ.step (E' := [(59, _)])
              case ho => rfl
              case hs => exact ⟨rfl, trivial⟩
              case hk => rfl
              case h1 =>
                intro wq_17 kq_17
                have zs_kq_17 := kq_17.size
                replace kk := kk.pure kq_17
                replace hb_1 := hb_1.pure kq_17
                replace hk := hk.pure kq_17
                refine WL.indexC hk.rsl Try.underlying22 Try.sizeOf37 rfl rfl ⟨hx2, rfl⟩ rfl ?_
                refine WL.nil ?_
                exact WX.one ⟨rfl, by first | exact Chg.refl _ _ | assumption⟩
              apply DQ.step (E' := [(60, _)])
              case ho => rfl
              case hs => exact ⟨rfl, trivial⟩
              case hk => rfl
              case h1 =>
                intro wq_18 kq_18
                refine WL.fieldAddr (fld_37_1) rfl rfl (?_)
                refine WL.nil ?_
                exact WX.one ⟨rfl, by first | exact Chg.refl _ _ | assumption⟩
              apply DQ.step (E' := [(61, _)])
              case ho => rfl
              case hs => exact ⟨rfl, trivial⟩
              case hk => rfl
              case h1 =>
                intro wq_19 kq_19
                have zs_kq_19 := kq_19.size
                replace kk := kk.pure kq_19
                replace hb_1 := hb_1.pure kq_19
                replace hk := hk.pure kq_19
                refine WL.load Try.isAgg3 rfl ((hk.rsl.cellsAt hx2) _ _ rfl) rfl (?_)
                refine WL.nil ?_
                exact WX.one ⟨rfl, by first | exact Chg.refl _ _ | assumption⟩
              apply DQ.step (E' := [(4, _)])
              case ho => rfl
              case hs => exact ⟨rfl, trivial⟩
              case hk => rfl
              case h1 =>
                intro wq_20 kq_20
                refine WL.move rfl rfl (?_)
                refine WL.nil ?_
                exact WX.one ⟨rfl, by first | exact Chg.refl _ _ | assumption⟩
              apply DQ.step (E' := [(63, _)])
              case ho => rfl
              case hs => exact ⟨rfl, trivial⟩
              case hk => rfl
              case h1 =>
                intro wq_21 kq_21
                have zs_kq_21 := kq_21.size
                replace kk := kk.pure kq_21
                replace hb_1 := hb_1.pure kq_21
                replace hk := hk.pure kq_21
                refine WL.indexC hk.rsl Try.underlying22 Try.sizeOf37 rfl rfl ⟨hx3, rfl⟩ rfl ?_
                refine WL.nil ?_
                exact WX.one ⟨rfl, by first | exact Chg.refl _ _ | assumption⟩
              apply DQ.step (E' := [(64, _)])
              case ho => rfl
              case hs => exact ⟨rfl, trivial⟩
              case hk => rfl
              case h1 =>
                intro wq_22 kq_22
                refine WL.fieldAddr (fld_37_2) rfl rfl (?_)
                refine WL.nil ?_
                exact WX.one ⟨rfl, by first | exact Chg.refl _ _ | assumption⟩
              apply DQ.step (E' := [(65, _)])
              case ho => rfl
              case hs => exact ⟨rfl, trivial⟩
              case hk => rfl
              case h1 =>
                intro wq_23 kq_23
                have zs_kq_23 := kq_23.size
                replace kk := kk.pure kq_23
                replace hb_1 := hb_1.pure kq_23
                replace hk := hk.pure kq_23
                refine WL.load Try.isAgg9 rfl ((hk.rsl.cellsAt hx3) _ _ rfl) rfl (?_)
                refine WL.nil ?_
                exact WX.one ⟨rfl, by first | exact Chg.refl _ _ | assumption⟩
              apply DQ.step (E' := [(54, _), (58, _), (62, _), (66, _)])
              case ho => rfl
              case hs => exact ⟨rfl, rfl, rfl, rfl, trivial⟩
              case hk => rfl
              case h1 =>
                intro wq_24 kq_24
                refine WL.bld rfl (bld_49_0_1_2_3 _ _ _ _) rfl (?_)
                refine WL.nil ?_
                exact WX.one ⟨rfl, by first | exact Chg.refl _ _ | assumption⟩
              refine DQ.done (fun hd_7 => ?_)
              refine DL.step [] rfl trivial rfl (fun wq_25 kq_25 => ?_)
              have zs_kq_25 := kq_25.size
              replace kk := kk.pure kq_25
              replace hb_1 := hb_1.pure kq_25
              replace hk := hk.pure kq_25
              replace hd_7 := hd_7.pure kq_25
              refine WL.alloc Try.zeroValue49 rfl ?_
              intro g_26 w_26 hge_26 hlt_26 hb_26 k_26
              have zs_k_26 := k_26.size
              replace kk := kk.pure k_26
              replace hb_1 := hb_1.pure k_26
              replace hk := hk.pure k_26
              replace hd_7 := hd_7.pure k_26
              refine WL.nil ?_
              refine WX.one ⟨hd_7, ?_⟩
              refine DL.step [(6, _), (67, _)] rfl ⟨rfl, rfl, trivial⟩ rfl (fun wq_27 kq_27 => ?_)
              have zs_kq_27 := kq_27.size
              replace kk := kk.pure kq_27
              replace hb_1 := hb_1.pure kq_27
              replace hk := hk.pure kq_27
              replace hd_7 := hd_7.pure kq_27
              replace hb_26 := hb_26.pure kq_27
              refine WL.stores Try.sizeOf49 hb_26 rfl rfl rfl (by first | exact Enc.one _ _ | (simp [Value.oneCell']; done) | (simp [Value.oneCell', Value.cells]; done)) (Nat.le_of_ble_eq_true rfl) rfl ?_
              intro w_28 hs_28 hn_28 k_28
              have zs_k_28 := k_28.size
              replace kk := kk.chg k_28 (by first | (intro h1; have h2 : _ = _ := h1; exfalso; omega) | (intros; exfalso; (try dsimp only at *); omega) | (intro b h1 h2 h3; exfalso; have h4 := h3.2; (try dsimp only at *); omega) | (intro h1; exfalso; have h4 := h1.2; (try dsimp only at *); omega) | (intro x h1 h2; exfalso; have h4 := h2.2; (try dsimp only at *); omega))
              replace hb_1 := hb_1.chg k_28 (by first | (intro h1; have h2 : _ = _ := h1; exfalso; omega) | (intros; exfalso; (try dsimp only at *); omega) | (intro b h1 h2 h3; exfalso; have h4 := h3.2; (try dsimp only at *); omega) | (intro h1; exfalso; have h4 := h1.2; (try dsimp only at *); omega) | (intro x h1 h2; exfalso; have h4 := h2.2; (try dsimp only at *); omega))
              replace hk := hk.chg k_28 (by first | (intro h1; have h2 : _ = _ := h1; exfalso; omega) | (intros; exfalso; (try dsimp only at *); omega) | (intro b h1 h2 h3; exfalso; have h4 := h3.2; (try dsimp only at *); omega) | (intro h1; exfalso; have h4 := h1.2; (try dsimp only at *); omega) | (intro x h1 h2; exfalso; have h4 := h2.2; (try dsimp only at *); omega))
              replace hd_7 := hd_7.chg k_28 (by first | (intro h1; have h2 : _ = _ := h1; exfalso; omega) | (intros; exfalso; (try dsimp only at *); omega) | (intro b h1 h2 h3; exfalso; have h4 := h3.2; (try dsimp only at *); omega) | (intro h1; exfalso; have h4 := h1.2; (try dsimp only at *); omega) | (intro x h1 h2; exfalso; have h4 := h2.2; (try dsimp only at *); omega))
              replace hb_26 := hn_28
              refine WL.nil ?_
              refine WX.one0 (v := undef) ⟨hd_7, ?_⟩
              refine DL.done (fun we_29 ke_29 => ?_)
              have zs_ke_29 := ke_29.size
              replace kk := kk.pure ke_29
              replace hb_1 := hb_1.pure ke_29
              replace hk := hk.pure ke_29
              replace hd_7 := hd_7.pure ke_29
              replace hb_26 := hb_26.pure ke_29
              refine WX.then_normal (WC.seq (WC.seq (WC.region (WL.loadsB Try.isAgg49 Try.sizeOf49 hb_26 rfl rfl rfl (?_)))))
              have hwf := four_wf (b := s.data.toList) (by omega) hL
              refine WL.call eg_25 rfl rfl (ptr_calls (ptr4 i0 i1 i2 i3) _ hwf) ?_
              rintro v w5 ⟨rfl, k5⟩
              have zs_k5 := k5.size
              replace kk := kk.pure k5
              replace hb_1 := hb_1.pure k5
              replace hk := hk.pure k5
              replace hb_26 := hb_26.pure k5
              refine WL.move rfl rfl (WL.extract rfl rfl rfl (WL.extract rfl rfl rfl (WL.assign rfl rfl (WL.assign rfl rfl (WL.nil (WX.then_normal (WC.seq (?_))))))))
              refine WC.region (WL.move rfl rfl (?_))
              refine WL.neq? rfl rfl rfl (fun h74 => ?_) (fun h74 => ?_)
              ·
                refine WL.nil (WX.then_normal (WC.cond_true rfl (WC.seq (WC.region (WL.bld rfl (bld_49_z) rfl (WL.move rfl rfl (?_)))))))
                refine WL.stores Try.sizeOf49 hb_1 rfl rfl rfl (by first | exact Enc.one _ _ | (simp [Value.oneCell']; done) | (simp [Value.oneCell', Value.cells]; done)) (Nat.le_of_ble_eq_true rfl) rfl ?_
                intro w_30 hs_30 hn_30 k_30
                have zs_k_30 := k_30.size
                replace kk := kk.chg k_30 (by first | (intro h1; have h2 : _ = _ := h1; exfalso; omega) | (intros; exfalso; (try dsimp only at *); omega) | (intro b h1 h2 h3; exfalso; have h4 := h3.2; (try dsimp only at *); omega) | (intro h1; exfalso; have h4 := h1.2; (try dsimp only at *); omega) | (intro x h1 h2; exfalso; have h4 := h2.2; (try dsimp only at *); omega))
                replace hk := hk.chg k_30 (by first | (intro h1; have h2 : _ = _ := h1; exfalso; omega) | (intros; exfalso; (try dsimp only at *); omega) | (intro b h1 h2 h3; exfalso; have h4 := h3.2; (try dsimp only at *); omega) | (intro h1; exfalso; have h4 := h1.2; (try dsimp only at *); omega) | (intro x h1 h2; exfalso; have h4 := h2.2; (try dsimp only at *); omega))
                replace hb_26 := hb_26.chg k_30 (by first | (intro h1; have h2 : _ = _ := h1; exfalso; omega) | (intros; exfalso; (try dsimp only at *); omega) | (intro b h1 h2 h3; exfalso; have h4 := h3.2; (try dsimp only at *); omega) | (intro h1; exfalso; have h4 := h1.2; (try dsimp only at *); omega) | (intro x h1 h2; exfalso; have h4 := h2.2; (try dsimp only at *); omega))
                replace hb_1 := hn_30
                refine WL.assign rfl rfl (WL.nil (WX.then_normal (WC.ret (WX.then_ret (?_)))))
                refine WX.ret2c (.inl rfl) Try.results27 Try.isAgg49 Try.sizeOf49 hb_1 rfl rfl rfl ?_
                first
                  | (refine ⟨_, rfl, ?_, kk⟩
                     rw [unpR_bad (by omega)]
                     rfl)
                  | (refine ⟨_, rfl, ?_, kk⟩
                     rw [unpR_four hL, if_neg (by omega)]
                     rfl)
                  | (have hr : ¬ rightP (ptr4 i0 i1 i2 i3) := fun hr => h74 (by rw [ptrE, if_pos hr])
                     refine ⟨_, rfl, ?_, kk⟩
                     rw [unpR_four hL, if_neg (fun x => hr x.2.2)]
                     rw [ptrE, if_neg hr]
                     rfl)
                  | (have hr : rightP (ptr4 i0 i1 i2 i3) := by
                       by_cases hr : rightP (ptr4 i0 i1 i2 i3)
                       ·
                         exact hr
                       ·
                         rw [ptrE, if_neg hr] at h74; cases h74
                     refine ⟨_, rfl, ?_, kk⟩
                     rw [unpR_four hL, if_pos ⟨by omega, ⟨by omega, by omega, by omega, by omega⟩, hr⟩]
                     rfl)
              ·
                refine WL.nil (WX.then_normal (WC.cond_false rfl (WC.skip (WX.then_normal (WC.seq (WC.region (WL.loadsB Try.isAgg49 Try.sizeOf49 hb_26 rfl rfl rfl (?_))))))))
                refine WL.stores Try.sizeOf49 hb_1 rfl rfl rfl (by first | exact Enc.one _ _ | (simp [Value.oneCell']; done) | (simp [Value.oneCell', Value.cells]; done)) (Nat.le_of_ble_eq_true rfl) rfl ?_
                intro w_30 hs_30 hn_30 k_30
                have zs_k_30 := k_30.size
                replace kk := kk.chg k_30 (by first | (intro h1; have h2 : _ = _ := h1; exfalso; omega) | (intros; exfalso; (try dsimp only at *); omega) | (intro b h1 h2 h3; exfalso; have h4 := h3.2; (try dsimp only at *); omega) | (intro h1; exfalso; have h4 := h1.2; (try dsimp only at *); omega) | (intro x h1 h2; exfalso; have h4 := h2.2; (try dsimp only at *); omega))
                replace hk := hk.chg k_30 (by first | (intro h1; have h2 : _ = _ := h1; exfalso; omega) | (intros; exfalso; (try dsimp only at *); omega) | (intro b h1 h2 h3; exfalso; have h4 := h3.2; (try dsimp only at *); omega) | (intro h1; exfalso; have h4 := h1.2; (try dsimp only at *); omega) | (intro x h1 h2; exfalso; have h4 := h2.2; (try dsimp only at *); omega))
                replace hb_26 := hb_26.chg k_30 (by first | (intro h1; have h2 : _ = _ := h1; exfalso; omega) | (intros; exfalso; (try dsimp only at *); omega) | (intro b h1 h2 h3; exfalso; have h4 := h3.2; (try dsimp only at *); omega) | (intro h1; exfalso; have h4 := h1.2; (try dsimp only at *); omega) | (intro x h1 h2; exfalso; have h4 := h2.2; (try dsimp only at *); omega))
                replace hb_1 := hn_30
                refine WL.assign rfl rfl (WL.nil (WX.then_normal (WC.ret (?_))))
                refine WX.ret2c (.inl rfl) Try.results27 Try.isAgg49 Try.sizeOf49 hb_1 rfl rfl rfl ?_
                first
                  | (refine ⟨_, rfl, ?_, kk⟩
                     rw [unpR_bad (by omega)]
                     rfl)
                  | (refine ⟨_, rfl, ?_, kk⟩
                     rw [unpR_four hL, if_neg (by omega)]
                     rfl)
                  | (have hr : ¬ rightP (ptr4 i0 i1 i2 i3) := fun hr => h74 (by rw [ptrE, if_pos hr])
                     refine ⟨_, rfl, ?_, kk⟩
                     rw [unpR_four hL, if_neg (fun x => hr x.2.2)]
                     rw [ptrE, if_neg hr]
                     rfl)
                  | (have hr : rightP (ptr4 i0 i1 i2 i3) := by
                       by_cases hr : rightP (ptr4 i0 i1 i2 i3)
                       ·
                         exact hr
                       ·
                         rw [ptrE, if_neg hr] at h74; cases h74
                     refine ⟨_, rfl, ?_, kk⟩
                     rw [unpR_four hL, if_pos ⟨by omega, ⟨by omega, by omega, by omega, by omega⟩, hr⟩]
                     rfl)
theorem docUnptr_calls (s : ByteArray) (w : World) (hs : s.size ≤ 140737488351232) : Calls Try.prog 26 [.string s].toArray w (Ret fun v w' => v = .tuple #[.agg (ept.f (unpR s).1).toArray, vi (unpR s).2] ∧ Chg Nob w w') := by
  have kk := Chg.refl Nob w
  refine Calls.of_WC Try.func26 rfl Try.ntmps26 (by simp) ?_
  refine WC.seq (WC.region (?_))
  refine WL.alloc Try.zeroValue49 rfl ?_
  intro g_1 w_1 hge_1 hlt_1 hb_1 k_1
  have zs_k_1 := k_1.size
  replace kk := kk.pure k_1
  refine WL.assign rfl rfl (WL.nil (WX.then_normal (WC.seq (WC.region (WL.move rfl rfl (?_))))))
  refine WL.call eg_16 rfl rfl (rdecode_calls hs) ?_
  rintro v w4 ⟨⟨ak, ck, rfl, hk⟩, k4⟩
  have zs_k4 := k4.size
  replace kk := kk.pure k4
  replace hb_1 := hb_1.pure k4
  replace hk := hk.lt
  refine WL.move rfl rfl (WL.extract rfl rfl rfl (WL.extract rfl rfl rfl (WL.assign rfl rfl (WL.assign rfl rfl (WL.nil (WX.then_normal (WC.seq (?_))))))))
  refine WC.seq (WC.region (WL.move rfl rfl (?_)))
  refine WL.neq? rfl rfl rfl (fun h14 => ?_) (fun h14 => ?_)
  ·
    refine WL.move rfl rfl (WL.pass rfl rfl rfl rfl (WL.pass rfl rfl rfl rfl (WL.pass rfl rfl rfl rfl (WL.pickT rfl rfl rfl (WL.nil (WX.then_normal (WC.cond_true rfl (?_))))))))
    refine WC.seq (WC.region (WL.bld rfl (bld_49_z) rfl (?_)))
    refine WL.stores Try.sizeOf49 hb_1 rfl rfl rfl (by first | exact Enc.one _ _ | (simp [Value.oneCell']; done) | (simp [Value.oneCell', Value.cells]; done)) (Nat.le_of_ble_eq_true rfl) rfl ?_
    intro w_2 hs_2 hn_2 k_2
    have zs_k_2 := k_2.size
    replace kk := kk.chg k_2 (by first | (intro h1; have h2 : _ = _ := h1; exfalso; omega) | (intros; exfalso; (try dsimp only at *); omega) | (intro b h1 h2 h3; exfalso; have h4 := h3.2; (try dsimp only at *); omega) | (intro h1; exfalso; have h4 := h1.2; (try dsimp only at *); omega) | (intro x h1 h2; exfalso; have h4 := h2.2; (try dsimp only at *); omega))
    replace hk := hk.chg k_2 (by first | (intro h1; have h2 : _ = _ := h1; exfalso; omega) | (intros; exfalso; (try dsimp only at *); omega) | (intro b h1 h2 h3; exfalso; have h4 := h3.2; (try dsimp only at *); omega) | (intro h1; exfalso; have h4 := h1.2; (try dsimp only at *); omega) | (intro x h1 h2; exfalso; have h4 := h2.2; (try dsimp only at *); omega))
    replace hb_1 := hn_2
    refine WL.assign rfl rfl (WL.nil (WX.then_normal (WC.ret (WX.then_ret (?_)))))
    refine WX.ret2c (.inl rfl) Try.results26 Try.isAgg49 Try.sizeOf49 hb_1 rfl rfl rfl ?_
    first
      | (refine ⟨_, rfl, ?_, kk⟩
         rw [unpR_bad (by omega)]
         rfl)
      | (have hr : ¬ rightP (ptr4 i0 i1 i2 i3) := fun hr => h44 (by rw [ptrE, if_pos hr])
         refine ⟨_, rfl, ?_, kk⟩
         rw [unpR_four hL, if_neg (fun x => hr x.2.2)]
         rfl)
      | (have hr : rightP (ptr4 i0 i1 i2 i3) := by
           by_cases hr : rightP (ptr4 i0 i1 i2 i3)
           ·
             exact hr
           ·
             rw [ptrE, if_neg hr] at h44; cases h44
         have h0 : decE s.data.toList = 0 := by omega
         have ht := unp_text h0 hL hr
         refine ⟨_, rfl, ?_, kk⟩
         first
           | (rw [unpR_four hL, if_neg (fun x => h48 (ht.2 x.2.1))]
              rfl)
           | (rw [unpR_four hL, if_pos ⟨h0, ht.1 h48, hr⟩]
              rfl))
  ·
    refine WL.move rfl rfl (WL.want rfl rfl rfl (WL.move rfl rfl (WL.want rfl rfl rfl (WL.len Try.underlying22 rfl rfl (WL.want rfl rfl rfl (?_))))))
    refine WL.neq? rfl rfl rfl (fun h18 => ?_) (fun h18 => ?_)
    ·
      refine WL.pickF rfl rfl rfl (WL.nil (WX.then_normal (WC.cond_true rfl (WC.seq (WC.region (WL.bld rfl (bld_49_z) rfl (?_)))))))
      refine WL.stores Try.sizeOf49 hb_1 rfl rfl rfl (by first | exact Enc.one _ _ | (simp [Value.oneCell']; done) | (simp [Value.oneCell', Value.cells]; done)) (Nat.le_of_ble_eq_true rfl) rfl ?_
      intro w_2 hs_2 hn_2 k_2
      have zs_k_2 := k_2.size
      replace kk := kk.chg k_2 (by first | (intro h1; have h2 : _ = _ := h1; exfalso; omega) | (intros; exfalso; (try dsimp only at *); omega) | (intro b h1 h2 h3; exfalso; have h4 := h3.2; (try dsimp only at *); omega) | (intro h1; exfalso; have h4 := h1.2; (try dsimp only at *); omega) | (intro x h1 h2; exfalso; have h4 := h2.2; (try dsimp only at *); omega))
      replace hk := hk.chg k_2 (by first | (intro h1; have h2 : _ = _ := h1; exfalso; omega) | (intros; exfalso; (try dsimp only at *); omega) | (intro b h1 h2 h3; exfalso; have h4 := h3.2; (try dsimp only at *); omega) | (intro h1; exfalso; have h4 := h1.2; (try dsimp only at *); omega) | (intro x h1 h2; exfalso; have h4 := h2.2; (try dsimp only at *); omega))
      replace hb_1 := hn_2
      refine WL.assign rfl rfl (WL.nil (WX.then_normal (WC.ret (WX.then_ret (?_)))))
      refine WX.ret2c (.inl rfl) Try.results26 Try.isAgg49 Try.sizeOf49 hb_1 rfl rfl rfl ?_
      first
        | (refine ⟨_, rfl, ?_, kk⟩
           rw [unpR_bad (by omega)]
           rfl)
        | (have hr : ¬ rightP (ptr4 i0 i1 i2 i3) := fun hr => h44 (by rw [ptrE, if_pos hr])
           refine ⟨_, rfl, ?_, kk⟩
           rw [unpR_four hL, if_neg (fun x => hr x.2.2)]
           rfl)
        | (have hr : rightP (ptr4 i0 i1 i2 i3) := by
             by_cases hr : rightP (ptr4 i0 i1 i2 i3)
             ·
               exact hr
             ·
               rw [ptrE, if_neg hr] at h44; cases h44
           have h0 : decE s.data.toList = 0 := by omega
           have ht := unp_text h0 hL hr
           refine ⟨_, rfl, ?_, kk⟩
           first
             | (rw [unpR_four hL, if_neg (fun x => h48 (ht.2 x.2.1))]
                rfl)
             | (rw [unpR_four hL, if_pos ⟨h0, ht.1 h48, hr⟩]
                rfl))
    ·
      refine WL.pickF rfl rfl rfl (WL.nil (WX.then_normal (WC.cond_false rfl (WC.skip (WX.then_normal (WC.seq (?_)))))))
      obtain ⟨i0, i1, i2, i3, hL⟩ := four (l := decL s.data.toList) (by omega)
      have hx0 : (decL s.data.toList)[0]? = some i0 := by rw [hL]; rfl
      have hx1 : (decL s.data.toList)[1]? = some i1 := by rw [hL]; rfl
      have hx2 : (decL s.data.toList)[2]? = some i2 := by rw [hL]; rfl
      have hx3 : (decL s.data.toList)[3]? = some i3 := by rw [hL]; rfl
      obtain ⟨bp, op, rfl⟩ := hk.rsl.place hx0
      refine WC.draw (Nob) [0, 1, 2, 3, 4, 5, 6, 7, 8, 9, 10, 11, 12, 13, 14, 15, 16] [17, 18] mixed rfl rfl (fun wd_2 kd_2 zd_2 => ?_)
      have zs_kd_2 := kd_2.size
      replace kk := kk.pure kd_2
      replace hb_1 := hb_1.pure kd_2
      replace hk := hk.pure kd_2
      apply DQ.step (E' := [(4, _)])
      case ho => rfl
      case hs => exact ⟨rfl, trivial⟩
      case hk => rfl
      case h1 =>
        intro wq_4 kq_4
        refine WL.move rfl rfl (?_)
        refine WL.nil ?_
        exact WX.one ⟨rfl, by first | exact Chg.refl _ _ | assumption⟩
      apply DQ.step (E' := [(21, _)])
      case ho => rfl
      case hs => exact ⟨rfl, trivial⟩
      case hk => rfl
      case h1 =>
        intro wq_5 kq_5
        have zs_kq_5 := kq_5.size
        replace kk := kk.pure kq_5
        replace hb_1 := hb_1.pure kq_5
        replace hk := hk.pure kq_5
        refine WL.indexC hk.rsl Try.underlying22 Try.sizeOf37 rfl rfl ⟨hx0, rfl⟩ rfl ?_
        refine WL.nil ?_
        exact WX.one ⟨rfl, by first | exact Chg.refl _ _ | assumption⟩
      apply DQ.step (E' := [(22, _)])
      case ho => rfl
      case hs => exact ⟨rfl, trivial⟩
      case hk => rfl
      case h1 =>
        intro wq_6 kq_6
        refine WL.fieldAddr (fld_37_1) rfl rfl (?_)
        refine WL.nil ?_
        exact WX.one ⟨rfl, by first | exact Chg.refl _ _ | assumption⟩
      apply DQ.step (E' := [(23, _)])
      case ho => rfl
      case hs => exact ⟨rfl, trivial⟩
      case hk => rfl
      case h1 =>
        intro wq_7 kq_7
        have zs_kq_7 := kq_7.size
        replace kk := kk.pure kq_7
        replace hb_1 := hb_1.pure kq_7
        replace hk := hk.pure kq_7
        refine WL.load Try.isAgg3 rfl ((hk.rsl.cellsAt hx0) _ _ rfl) rfl (?_)
        refine WL.nil ?_
        exact WX.one ⟨rfl, by first | exact Chg.refl _ _ | assumption⟩
      apply DQ.step (E' := [(4, _)])
      case ho => rfl
      case hs => exact ⟨rfl, trivial⟩
      case hk => rfl
      case h1 =>
        intro wq_8 kq_8
        refine WL.move rfl rfl (?_)
        refine WL.nil ?_
        exact WX.one ⟨rfl, by first | exact Chg.refl _ _ | assumption⟩
      apply DQ.step (E' := [(25, _)])
      case ho => rfl
      case hs => exact ⟨rfl, trivial⟩
      case hk => rfl
      case h1 =>
        intro wq_9 kq_9
        have zs_kq_9 := kq_9.size
        replace kk := kk.pure kq_9
        replace hb_1 := hb_1.pure kq_9
        replace hk := hk.pure kq_9
        refine WL.indexC hk.rsl Try.underlying22 Try.sizeOf37 rfl rfl ⟨hx1, rfl⟩ rfl ?_
        refine WL.nil ?_
        exact WX.one ⟨rfl, by first | exact Chg.refl _ _ | assumption⟩
      apply DQ.step (E' := [(26, _)])
      case ho => rfl
      case hs => exact ⟨rfl, trivial⟩
      case hk => rfl
      case h1 =>
        intro wq_10 kq_10
        refine WL.fieldAddr (fld_37_1) rfl rfl (?_)
        refine WL.nil ?_
        exact WX.one ⟨rfl, by first | exact Chg.refl _ _ | assumption⟩
      apply DQ.step (E' := [(27, _)])
      case ho => rfl
      case hs => exact ⟨rfl, trivial⟩
      case hk => rfl
      case h1 =>
        intro wq_11 kq_11
        have zs_kq_11 := kq_11.size
        replace kk := kk.pure kq_11
        replace hb_1 := hb_1.pure kq_11
        replace hk := hk.pure kq_11
        refine WL.load Try.isAgg3 rfl ((hk.rsl.cellsAt hx1) _ _ rfl) rfl (?_)
        refine WL.nil ?_
        exact WX.one ⟨rfl, by first | exact Chg.refl _ _ | assumption⟩
      apply DQ.step (E' := [(4, _)])
      case ho => rfl
      case hs => exact ⟨rfl, trivial⟩
      case hk => rfl
      case h1 =>
        intro wq_12 kq_12
        refine WL.move rfl rfl (?_)
        refine WL.nil ?_
        exact WX.one ⟨rfl, by first | exact Chg.refl _ _ | assumption⟩
      apply DQ.step (E' := [(29, _)])
      case ho => rfl
      case hs => exact ⟨rfl, trivial⟩
      case hk => rfl
      case h1 =>
        intro wq_13 kq_13
        have zs_kq_13 := kq_13.size
        replace kk := kk.pure kq_13
        replace hb_1 := hb_1.pure kq_13
        replace hk := hk.pure kq_13
        refine WL.indexC hk.rsl Try.underlying22 Try.sizeOf37 rfl rfl ⟨hx2, rfl⟩ rfl ?_
        refine WL.nil ?_
        exact WX.one ⟨rfl, by first | exact Chg.refl _ _ | assumption⟩
      apply DQ.step (E' := [(30, _)])
      case ho => rfl
      case hs => exact ⟨rfl, trivial⟩
      case hk => rfl
      case h1 =>
        intro wq_14 kq_14
        refine WL.fieldAddr (fld_37_1) rfl rfl (?_)
        refine WL.nil ?_
        exact WX.one ⟨rfl, by first | exact Chg.refl _ _ | assumption⟩
      apply DQ.step (E' := [(31, _)])
      case ho => rfl
      case hs => exact ⟨rfl, trivial⟩
      case hk => rfl
      case h1 =>
        intro wq_15 kq_15
        have zs_kq_15 := kq_15.size
        replace kk := kk.pure kq_15
        replace hb_1 := hb_1.pure kq_15
        replace hk := hk.pure kq_15
        refine WL.load Try.isAgg3 rfl ((hk.rsl.cellsAt hx2) _ _ rfl) rfl (?_)
        refine WL.nil ?_
        exact WX.one ⟨rfl, by first | exact Chg.refl _ _ | assumption⟩
      apply DQ.step (E' := [(4, _)])
      case ho => rfl
      case hs => exact ⟨rfl, trivial⟩
      case hk => rfl
      case h1 =>
        intro wq_16 kq_16
        refine WL.move rfl rfl (?_)
        refine WL.nil ?_
        exact WX.one ⟨rfl, by first | exact Chg.refl _ _ | assumption⟩
      apply DQ.step (E' := [(33, _)])
      case ho => rfl
      case hs => exact ⟨rfl, trivial⟩
      case hk => rfl
      case h1 =>
        intro wq_17 kq_17
        have zs_kq_17 := kq_17.size
        replace kk := kk.pure kq_17
        replace hb_1 := hb_1.pure kq_17
        replace hk := hk.pure kq_17
        refine WL.indexC hk.rsl Try.underlying22 Try.sizeOf37 rfl rfl ⟨hx3, rfl⟩ rfl ?_
        refine WL.nil ?_
        exact WX.one ⟨rfl, by first | exact Chg.refl _ _ | assumption⟩
      apply DQ.step (E' := [(34, _)])
      case ho => rfl
      case hs => exact ⟨rfl, trivial⟩
      case hk => rfl
      case h1 =>
        intro wq_18 kq_18
        refine WL.fieldAddr (fld_37_2) rfl rfl (?_)
        refine WL.nil ?_
        exact WX.one ⟨rfl, by first | exact Chg.refl _ _ | assumption⟩
      apply DQ.step (E' := [(35, _)])
      case ho => rfl
      case hs => exact ⟨rfl, trivial⟩
      case hk => rfl
      case h1 =>
        intro wq_19 kq_19
        have zs_kq_19 := kq_19.size
        replace kk := kk.pure kq_19
        replace hb_1 := hb_1.pure kq_19
        replace hk := hk.pure kq_19
        refine WL.load Try.isAgg9 rfl ((hk.rsl.cellsAt hx3) _ _ rfl) rfl (?_)
        refine WL.nil ?_
        exact WX.one ⟨rfl, by first | exact Chg.refl _ _ | assumption⟩
      apply DQ.step (E' := [(24, _), (28, _), (32, _), (36, _)])
      case ho => rfl
      case hs => exact ⟨rfl, rfl, rfl, rfl, trivial⟩
      case hk => rfl
      case h1 =>
        intro wq_20 kq_20
        refine WL.bld rfl (bld_49_0_1_2_3 _ _ _ _) rfl (?_)
        refine WL.nil ?_
        exact WX.one ⟨rfl, by first | exact Chg.refl _ _ | assumption⟩
      refine DQ.done (fun hd_3 => ?_)
      refine DL.step [] rfl trivial rfl (fun wq_21 kq_21 => ?_)
      have zs_kq_21 := kq_21.size
      replace kk := kk.pure kq_21
      replace hb_1 := hb_1.pure kq_21
      replace hk := hk.pure kq_21
      replace hd_3 := hd_3.pure kq_21
      refine WL.alloc Try.zeroValue49 rfl ?_
      intro g_22 w_22 hge_22 hlt_22 hb_22 k_22
      have zs_k_22 := k_22.size
      replace kk := kk.pure k_22
      replace hb_1 := hb_1.pure k_22
      replace hk := hk.pure k_22
      replace hd_3 := hd_3.pure k_22
      refine WL.nil ?_
      refine WX.one ⟨hd_3, ?_⟩
      refine DL.step [(6, _), (37, _)] rfl ⟨rfl, rfl, trivial⟩ rfl (fun wq_23 kq_23 => ?_)
      have zs_kq_23 := kq_23.size
      replace kk := kk.pure kq_23
      replace hb_1 := hb_1.pure kq_23
      replace hk := hk.pure kq_23
      replace hd_3 := hd_3.pure kq_23
      replace hb_22 := hb_22.pure kq_23
      refine WL.stores Try.sizeOf49 hb_22 rfl rfl rfl (by first | exact Enc.one _ _ | (simp [Value.oneCell']; done) | (simp [Value.oneCell', Value.cells]; done)) (Nat.le_of_ble_eq_true rfl) rfl ?_
      intro w_24 hs_24 hn_24 k_24
      have zs_k_24 := k_24.size
      replace kk := kk.chg k_24 (by first | (intro h1; have h2 : _ = _ := h1; exfalso; omega) | (intros; exfalso; (try dsimp only at *); omega) | (intro b h1 h2 h3; exfalso; have h4 := h3.2; (try dsimp only at *); omega) | (intro h1; exfalso; have h4 := h1.2; (try dsimp only at *); omega) | (intro x h1 h2; exfalso; have h4 := h2.2; (try dsimp only at *); omega))
      replace hb_1 := hb_1.chg k_24 (by first | (intro h1; have h2 : _ = _ := h1; exfalso; omega) | (intros; exfalso; (try dsimp only at *); omega) | (intro b h1 h2 h3; exfalso; have h4 := h3.2; (try dsimp only at *); omega) | (intro h1; exfalso; have h4 := h1.2; (try dsimp only at *); omega) | (intro x h1 h2; exfalso; have h4 := h2.2; (try dsimp only at *); omega))
      replace hk := hk.chg k_24 (by first | (intro h1; have h2 : _ = _ := h1; exfalso; omega) | (intros; exfalso; (try dsimp only at *); omega) | (intro b h1 h2 h3; exfalso; have h4 := h3.2; (try dsimp only at *); omega) | (intro h1; exfalso; have h4 := h1.2; (try dsimp only at *); omega) | (intro x h1 h2; exfalso; have h4 := h2.2; (try dsimp only at *); omega))
      replace hd_3 := hd_3.chg k_24 (by first | (intro h1; have h2 : _ = _ := h1; exfalso; omega) | (intros; exfalso; (try dsimp only at *); omega) | (intro b h1 h2 h3; exfalso; have h4 := h3.2; (try dsimp only at *); omega) | (intro h1; exfalso; have h4 := h1.2; (try dsimp only at *); omega) | (intro x h1 h2; exfalso; have h4 := h2.2; (try dsimp only at *); omega))
      replace hb_22 := hn_24
      refine WL.nil ?_
      refine WX.one0 (v := undef) ⟨hd_3, ?_⟩
      refine DL.done (fun we_25 ke_25 => ?_)
      have zs_ke_25 := ke_25.size
      replace kk := kk.pure ke_25
      replace hb_1 := hb_1.pure ke_25
      replace hk := hk.pure ke_25
      replace hd_3 := hd_3.pure ke_25
      replace hb_22 := hb_22.pure ke_25
      refine WX.then_normal (WC.seq (WC.region (WL.loadsB Try.isAgg49 Try.sizeOf49 hb_22 rfl rfl rfl (?_))))
      have hwf := four_wf (b := s.data.toList) (by omega) hL
      refine WL.call eg_24 rfl rfl (docPtr_calls (ptr4 i0 i1 i2 i3) _ hwf) ?_
      rintro v w5 ⟨rfl, k5⟩
      have zs_k5 := k5.size
      replace kk := kk.pure k5
      replace hb_1 := hb_1.pure k5
      replace hk := hk.pure k5
      replace hb_22 := hb_22.pure k5
      refine WL.move rfl rfl (WL.extract rfl rfl rfl (WL.extract rfl rfl rfl (WL.assign rfl rfl (WL.assign rfl rfl (WL.nil (WX.then_normal (WC.seq (?_))))))))
      refine WC.seq (WC.region (WL.move rfl rfl (?_)))
      refine WL.neq? rfl rfl rfl (fun h44 => ?_) (fun h44 => ?_)
      ·
        refine WL.move rfl rfl (WL.pass rfl rfl rfl rfl (WL.pass rfl rfl rfl rfl (WL.pass rfl rfl rfl rfl (WL.pickT rfl rfl rfl (WL.nil (WX.then_normal (WC.cond_true rfl (?_))))))))
        refine WC.seq (WC.region (WL.bld rfl (bld_49_z) rfl (?_)))
        refine WL.stores Try.sizeOf49 hb_1 rfl rfl rfl (by first | exact Enc.one _ _ | (simp [Value.oneCell']; done) | (simp [Value.oneCell', Value.cells]; done)) (Nat.le_of_ble_eq_true rfl) rfl ?_
        intro w_26 hs_26 hn_26 k_26
        have zs_k_26 := k_26.size
        replace kk := kk.chg k_26 (by first | (intro h1; have h2 : _ = _ := h1; exfalso; omega) | (intros; exfalso; (try dsimp only at *); omega) | (intro b h1 h2 h3; exfalso; have h4 := h3.2; (try dsimp only at *); omega) | (intro h1; exfalso; have h4 := h1.2; (try dsimp only at *); omega) | (intro x h1 h2; exfalso; have h4 := h2.2; (try dsimp only at *); omega))
        replace hk := hk.chg k_26 (by first | (intro h1; have h2 : _ = _ := h1; exfalso; omega) | (intros; exfalso; (try dsimp only at *); omega) | (intro b h1 h2 h3; exfalso; have h4 := h3.2; (try dsimp only at *); omega) | (intro h1; exfalso; have h4 := h1.2; (try dsimp only at *); omega) | (intro x h1 h2; exfalso; have h4 := h2.2; (try dsimp only at *); omega))
        replace hb_22 := hb_22.chg k_26 (by first | (intro h1; have h2 : _ = _ := h1; exfalso; omega) | (intros; exfalso; (try dsimp only at *); omega) | (intro b h1 h2 h3; exfalso; have h4 := h3.2; (try dsimp only at *); omega) | (intro h1; exfalso; have h4 := h1.2; (try dsimp only at *); omega) | (intro x h1 h2; exfalso; have h4 := h2.2; (try dsimp only at *); omega))
        replace hb_1 := hn_26
        refine WL.assign rfl rfl (WL.nil (WX.then_normal (WC.ret (WX.then_ret (?_)))))
        refine WX.ret2c (.inl rfl) Try.results26 Try.isAgg49 Try.sizeOf49 hb_1 rfl rfl rfl ?_
        first
          | (refine ⟨_, rfl, ?_, kk⟩
             rw [unpR_bad (by omega)]
             rfl)
          | (have hr : ¬ rightP (ptr4 i0 i1 i2 i3) := fun hr => h44 (by rw [ptrE, if_pos hr])
             refine ⟨_, rfl, ?_, kk⟩
             rw [unpR_four hL, if_neg (fun x => hr x.2.2)]
             rfl)
          | (have hr : rightP (ptr4 i0 i1 i2 i3) := by
               by_cases hr : rightP (ptr4 i0 i1 i2 i3)
               ·
                 exact hr
               ·
                 rw [ptrE, if_neg hr] at h44; cases h44
             have h0 : decE s.data.toList = 0 := by omega
             have ht := unp_text h0 hL hr
             refine ⟨_, rfl, ?_, kk⟩
             first
               | (rw [unpR_four hL, if_neg (fun x => h48 (ht.2 x.2.1))]
                  rfl)
               | (rw [unpR_four hL, if_pos ⟨h0, ht.1 h48, hr⟩]
                  rfl))
      ·
        refine WL.move rfl rfl (WL.want rfl rfl rfl (WL.move rfl rfl (WL.want rfl rfl rfl (WL.move rfl rfl (WL.want rfl rfl rfl (?_))))))
        refine WL.sneq? rfl rfl rfl (fun h48 => ?_) (fun h48 => ?_)
        ·
          refine WL.pickF rfl rfl rfl (WL.nil (WX.then_normal (WC.cond_true rfl (WC.seq (WC.region (WL.bld rfl (bld_49_z) rfl (?_)))))))
          refine WL.stores Try.sizeOf49 hb_1 rfl rfl rfl (by first | exact Enc.one _ _ | (simp [Value.oneCell']; done) | (simp [Value.oneCell', Value.cells]; done)) (Nat.le_of_ble_eq_true rfl) rfl ?_
          intro w_26 hs_26 hn_26 k_26
          have zs_k_26 := k_26.size
          replace kk := kk.chg k_26 (by first | (intro h1; have h2 : _ = _ := h1; exfalso; omega) | (intros; exfalso; (try dsimp only at *); omega) | (intro b h1 h2 h3; exfalso; have h4 := h3.2; (try dsimp only at *); omega) | (intro h1; exfalso; have h4 := h1.2; (try dsimp only at *); omega) | (intro x h1 h2; exfalso; have h4 := h2.2; (try dsimp only at *); omega))
          replace hk := hk.chg k_26 (by first | (intro h1; have h2 : _ = _ := h1; exfalso; omega) | (intros; exfalso; (try dsimp only at *); omega) | (intro b h1 h2 h3; exfalso; have h4 := h3.2; (try dsimp only at *); omega) | (intro h1; exfalso; have h4 := h1.2; (try dsimp only at *); omega) | (intro x h1 h2; exfalso; have h4 := h2.2; (try dsimp only at *); omega))
          replace hb_22 := hb_22.chg k_26 (by first | (intro h1; have h2 : _ = _ := h1; exfalso; omega) | (intros; exfalso; (try dsimp only at *); omega) | (intro b h1 h2 h3; exfalso; have h4 := h3.2; (try dsimp only at *); omega) | (intro h1; exfalso; have h4 := h1.2; (try dsimp only at *); omega) | (intro x h1 h2; exfalso; have h4 := h2.2; (try dsimp only at *); omega))
          replace hb_1 := hn_26
          refine WL.assign rfl rfl (WL.nil (WX.then_normal (WC.ret (WX.then_ret (?_)))))
          refine WX.ret2c (.inl rfl) Try.results26 Try.isAgg49 Try.sizeOf49 hb_1 rfl rfl rfl ?_
          first
            | (refine ⟨_, rfl, ?_, kk⟩
               rw [unpR_bad (by omega)]
               rfl)
            | (have hr : ¬ rightP (ptr4 i0 i1 i2 i3) := fun hr => h44 (by rw [ptrE, if_pos hr])
               refine ⟨_, rfl, ?_, kk⟩
               rw [unpR_four hL, if_neg (fun x => hr x.2.2)]
               rfl)
            | (have hr : rightP (ptr4 i0 i1 i2 i3) := by
                 by_cases hr : rightP (ptr4 i0 i1 i2 i3)
                 ·
                   exact hr
                 ·
                   rw [ptrE, if_neg hr] at h44; cases h44
               have h0 : decE s.data.toList = 0 := by omega
               have ht := unp_text h0 hL hr
               refine ⟨_, rfl, ?_, kk⟩
               first
                 | (rw [unpR_four hL, if_neg (fun x => h48 (ht.2 x.2.1))]
                    rfl)
                 | (rw [unpR_four hL, if_pos ⟨h0, ht.1 h48, hr⟩]
                    rfl))
        ·
          refine WL.pickF rfl rfl rfl (WL.nil (WX.then_normal (WC.cond_false rfl (WC.skip (WX.then_normal (WC.seq (WC.region (?_))))))))
          refine WL.loadsB Try.isAgg49 Try.sizeOf49 hb_22 rfl rfl rfl (?_)
          refine WL.stores Try.sizeOf49 hb_1 rfl rfl rfl (by first | exact Enc.one _ _ | (simp [Value.oneCell']; done) | (simp [Value.oneCell', Value.cells]; done)) (Nat.le_of_ble_eq_true rfl) rfl ?_
          intro w_26 hs_26 hn_26 k_26
          have zs_k_26 := k_26.size
          replace kk := kk.chg k_26 (by first | (intro h1; have h2 : _ = _ := h1; exfalso; omega) | (intros; exfalso; (try dsimp only at *); omega) | (intro b h1 h2 h3; exfalso; have h4 := h3.2; (try dsimp only at *); omega) | (intro h1; exfalso; have h4 := h1.2; (try dsimp only at *); omega) | (intro x h1 h2; exfalso; have h4 := h2.2; (try dsimp only at *); omega))
          replace hk := hk.chg k_26 (by first | (intro h1; have h2 : _ = _ := h1; exfalso; omega) | (intros; exfalso; (try dsimp only at *); omega) | (intro b h1 h2 h3; exfalso; have h4 := h3.2; (try dsimp only at *); omega) | (intro h1; exfalso; have h4 := h1.2; (try dsimp only at *); omega) | (intro x h1 h2; exfalso; have h4 := h2.2; (try dsimp only at *); omega))
          replace hb_22 := hb_22.chg k_26 (by first | (intro h1; have h2 : _ = _ := h1; exfalso; omega) | (intros; exfalso; (try dsimp only at *); omega) | (intro b h1 h2 h3; exfalso; have h4 := h3.2; (try dsimp only at *); omega) | (intro h1; exfalso; have h4 := h1.2; (try dsimp only at *); omega) | (intro x h1 h2; exfalso; have h4 := h2.2; (try dsimp only at *); omega))
          replace hb_1 := hn_26
          refine WL.assign rfl rfl (WL.nil (WX.then_normal (WC.ret (?_))))
          refine WX.ret2c (.inl rfl) Try.results26 Try.isAgg49 Try.sizeOf49 hb_1 rfl rfl rfl ?_
          first
            | (refine ⟨_, rfl, ?_, kk⟩
               rw [unpR_bad (by omega)]
               rfl)
            | (have hr : ¬ rightP (ptr4 i0 i1 i2 i3) := fun hr => h44 (by rw [ptrE, if_pos hr])
               refine ⟨_, rfl, ?_, kk⟩
               rw [unpR_four hL, if_neg (fun x => hr x.2.2)]
               rfl)
            | (have hr : rightP (ptr4 i0 i1 i2 i3) := by
                 by_cases hr : rightP (ptr4 i0 i1 i2 i3)
                 ·
                   exact hr
                 ·
                   rw [ptrE, if_neg hr] at h44; cases h44
               have h0 : decE s.data.toList = 0 := by omega
               have ht := unp_text h0 hL hr
               refine ⟨_, rfl, ?_, kk⟩
               first
                 | (rw [unpR_four hL, if_neg (fun x => h48 (ht.2 x.2.1))]
                    rfl)
                 | (rw [unpR_four hL, if_pos ⟨h0, ht.1 h48, hr⟩]
                    rfl))
theorem packPtrs_calls (p : PtrV) (s : ByteArray) (w : World) (hw : WfP p) (hs : s.size ≤ 140737488351232) : Calls Try.prog 10 [.agg (ept.f p).toArray, .string s].toArray w (Ret fun v w' => v = .bool true ∧ Chg Nob w w') := by
  have kk := Chg.refl Nob w
  refine Calls.of_WC Try.func10 rfl Try.ntmps10 (by simp) ?_
  refine WC.seq (WC.region (?_))
  refine WL.box rfl rfl ?_
  intro g_1 w_1 hge_1 hlt_1 hb_1 k_1
  have zs_k_1 := k_1.size
  replace kk := kk.pure k_1
  refine WL.assign rfl rfl (WL.nil (WX.then_normal (WC.seq (WC.seq (WC.region (?_))))))
  refine WL.call eg_13 rfl rfl (known5_calls _) ?_
  rintro v w1 ⟨rfl, k1⟩
  have zs_k1 := k1.size
  replace kk := kk.pure k1
  replace hb_1 := hb_1.pure k1
  refine WL.not rfl rfl (WL.nil (WX.then_normal (WC.cond_false rfl (WC.skip (WX.then_normal (WC.seq (WC.region (?_))))))))
  refine WL.loadsB Try.isAgg49 Try.sizeOf49 hb_1 rfl rfl rfl (?_)
  refine WL.call eg_24 rfl rfl (docPtr_calls p _ hw) ?_
  rintro v w1 ⟨rfl, k1⟩
  have zs_k1 := k1.size
  replace kk := kk.pure k1
  replace hb_1 := hb_1.pure k1
  refine WL.move rfl rfl (WL.extract rfl rfl rfl (WL.extract rfl rfl rfl (WL.assign rfl rfl (WL.assign rfl rfl (WL.nil (WX.then_normal (WC.seq (?_))))))))
  refine WC.region (WL.loadsB Try.isAgg49 Try.sizeOf49 hb_1 rfl rfl rfl (?_))
  refine WL.call eg_25 rfl rfl (ptr_calls p _ hw) ?_
  rintro v w1 ⟨rfl, k1⟩
  have zs_k1 := k1.size
  replace kk := kk.pure k1
  replace hb_1 := hb_1.pure k1
  refine WL.move rfl rfl (WL.extract rfl rfl rfl (WL.extract rfl rfl rfl (WL.assign rfl rfl (WL.assign rfl rfl (WL.nil (WX.then_normal (WC.seq (?_))))))))
  refine WC.region (WL.move rfl rfl (?_))
  refine WL.call eg_26 rfl rfl (docUnptr_calls s _ hs) ?_
  rintro v w1 ⟨rfl, k1⟩
  have zs_k1 := k1.size
  replace kk := kk.pure k1
  replace hb_1 := hb_1.pure k1
  refine WL.move rfl rfl (WL.extract rfl rfl rfl (WL.extract rfl rfl rfl (?_)))
  refine WL.alloc Try.zeroValue49 rfl ?_
  intro g_2 w_2 hge_2 hlt_2 hb_2 k_2
  have zs_k_2 := k_2.size
  replace kk := kk.pure k_2
  replace hb_1 := hb_1.pure k_2
  refine WL.stores Try.sizeOf49 hb_2 rfl rfl rfl (by first | exact Enc.one _ _ | (simp [Value.oneCell']; done) | (simp [Value.oneCell', Value.cells]; done)) (Nat.le_of_ble_eq_true rfl) rfl ?_
  intro w_3 hs_3 hn_3 k_3
  have zs_k_3 := k_3.size
  replace kk := kk.chg k_3 (by first | (intro h1; have h2 : _ = _ := h1; exfalso; omega) | (intros; exfalso; (try dsimp only at *); omega) | (intro b h1 h2 h3; exfalso; have h4 := h3.2; (try dsimp only at *); omega) | (intro h1; exfalso; have h4 := h1.2; (try dsimp only at *); omega) | (intro x h1 h2; exfalso; have h4 := h2.2; (try dsimp only at *); omega))
  replace hb_1 := hb_1.chg k_3 (by first | (intro h1; have h2 : _ = _ := h1; exfalso; omega) | (intros; exfalso; (try dsimp only at *); omega) | (intro b h1 h2 h3; exfalso; have h4 := h3.2; (try dsimp only at *); omega) | (intro h1; exfalso; have h4 := h1.2; (try dsimp only at *); omega) | (intro x h1 h2; exfalso; have h4 := h2.2; (try dsimp only at *); omega))
  replace hb_2 := hn_3
  refine WL.assign rfl rfl (WL.nil (WX.then_normal (WC.seq (WC.region (WL.move rfl rfl (?_))))))
  refine WL.call eg_27 rfl rfl (unptr_calls s _ hs) ?_
  rintro v w1 ⟨rfl, k1⟩
  have zs_k1 := k1.size
  replace kk := kk.pure k1
  replace hb_1 := hb_1.pure k1
  replace hb_2 := hb_2.pure k1
  refine WL.move rfl rfl (WL.extract rfl rfl rfl (WL.extract rfl rfl rfl (?_)))
  refine WL.alloc Try.zeroValue49 rfl ?_
  intro g_4 w_4 hge_4 hlt_4 hb_4 k_4
  have zs_k_4 := k_4.size
  replace kk := kk.pure k_4
  replace hb_1 := hb_1.pure k_4
  replace hb_2 := hb_2.pure k_4
  refine WL.stores Try.sizeOf49 hb_4 rfl rfl rfl (by first | exact Enc.one _ _ | (simp [Value.oneCell']; done) | (simp [Value.oneCell', Value.cells]; done)) (Nat.le_of_ble_eq_true rfl) rfl ?_
  intro w_5 hs_5 hn_5 k_5
  have zs_k_5 := k_5.size
  replace kk := kk.chg k_5 (by first | (intro h1; have h2 : _ = _ := h1; exfalso; omega) | (intros; exfalso; (try dsimp only at *); omega) | (intro b h1 h2 h3; exfalso; have h4 := h3.2; (try dsimp only at *); omega) | (intro h1; exfalso; have h4 := h1.2; (try dsimp only at *); omega) | (intro x h1 h2; exfalso; have h4 := h2.2; (try dsimp only at *); omega))
  replace hb_1 := hb_1.chg k_5 (by first | (intro h1; have h2 : _ = _ := h1; exfalso; omega) | (intros; exfalso; (try dsimp only at *); omega) | (intro b h1 h2 h3; exfalso; have h4 := h3.2; (try dsimp only at *); omega) | (intro h1; exfalso; have h4 := h1.2; (try dsimp only at *); omega) | (intro x h1 h2; exfalso; have h4 := h2.2; (try dsimp only at *); omega))
  replace hb_2 := hb_2.chg k_5 (by first | (intro h1; have h2 : _ = _ := h1; exfalso; omega) | (intros; exfalso; (try dsimp only at *); omega) | (intro b h1 h2 h3; exfalso; have h4 := h3.2; (try dsimp only at *); omega) | (intro h1; exfalso; have h4 := h1.2; (try dsimp only at *); omega) | (intro x h1 h2; exfalso; have h4 := h2.2; (try dsimp only at *); omega))
  replace hb_4 := hn_5
  refine WL.assign rfl rfl (WL.nil (WX.then_normal (WC.seq (WC.seq (WC.region (WL.move rfl rfl (WL.move rfl rfl (?_))))))))
  refine WL.sneq? rfl rfl rfl (fun h39 => ?_) (fun h39 => ?_)
  ·
    refine WL.move rfl rfl (WL.pass rfl rfl rfl rfl (WL.pass rfl rfl rfl rfl (WL.pass rfl rfl rfl rfl (WL.pickT rfl rfl rfl (WL.move rfl rfl (WL.pass rfl rfl rfl rfl (WL.pass rfl rfl rfl rfl (?_))))))))
    refine WL.pass rfl rfl rfl rfl (WL.pickT rfl rfl rfl (WL.move rfl rfl (WL.pass rfl rfl rfl rfl (WL.pass rfl rfl rfl rfl (WL.pass rfl rfl rfl rfl (WL.pickT rfl rfl rfl (WL.nil (?_))))))))
    refine WX.then_normal (WC.cond_true rfl (WC.seq (WC.region (WL.assign rfl rfl (WL.nil (WX.then_normal (WC.ret (?_))))))))
    refine WX.then_ret (?_)
    refine WX.ret1 (.inl rfl) Try.results10 rfl ?_
    first
      | exact ⟨_, rfl, rfl, kk⟩
      | (refine ⟨_, rfl, ?_, kk⟩; exact congrArg Value.bool (decide_eq_true rfl))
      | (exfalso; exact h39 rfl)
      | (exfalso; exact h43 rfl)
      | (exfalso; exact h48 rfl)
      | (exfalso; exact h53 rfl)
      | (exfalso; exact h63 rfl)
  ·
    refine WL.move rfl rfl (WL.want rfl rfl rfl (WL.move rfl rfl (WL.want rfl rfl rfl (WL.move rfl rfl (WL.want rfl rfl rfl (?_))))))
    refine WL.neq? rfl rfl rfl (fun h43 => ?_) (fun h43 => ?_)
    ·
      refine WL.pickF rfl rfl rfl (WL.move rfl rfl (WL.pass rfl rfl rfl rfl (WL.pass rfl rfl rfl rfl (WL.pass rfl rfl rfl rfl (WL.pickT rfl rfl rfl (WL.move rfl rfl (WL.pass rfl rfl rfl rfl (?_))))))))
      refine WL.pass rfl rfl rfl rfl (WL.pass rfl rfl rfl rfl (WL.pickT rfl rfl rfl (WL.nil (WX.then_normal (WC.cond_true rfl (WC.seq (WC.region (?_))))))))
      refine WL.assign rfl rfl (WL.nil (WX.then_normal (WC.ret (WX.then_ret (?_)))))
      refine WX.ret1 (.inl rfl) Try.results10 rfl ?_
      first
        | exact ⟨_, rfl, rfl, kk⟩
        | (refine ⟨_, rfl, ?_, kk⟩; exact congrArg Value.bool (decide_eq_true rfl))
        | (exfalso; exact h39 rfl)
        | (exfalso; exact h43 rfl)
        | (exfalso; exact h48 rfl)
        | (exfalso; exact h53 rfl)
        | (exfalso; exact h63 rfl)
    ·
      refine WL.pickF rfl rfl rfl (WL.move rfl rfl (WL.want rfl rfl rfl (WL.loadsB Try.isAgg49 Try.sizeOf49 hb_2 rfl rfl rfl (WL.want rfl rfl rfl (WL.loadsB Try.isAgg49 Try.sizeOf49 hb_4 rfl rfl rfl (WL.want rfl rfl rfl (?_)))))))
      refine WL.aneq? eqg_ptr (eq_ptr _ _) rfl rfl rfl (fun h48 => ?_) (fun h48 => ?_)
      ·
        refine WL.pickF rfl rfl rfl (WL.move rfl rfl (WL.pass rfl rfl rfl rfl (WL.pass rfl rfl rfl rfl (WL.pass rfl rfl rfl rfl (WL.pickT rfl rfl rfl (WL.nil (WX.then_normal (?_))))))))
        refine WC.cond_true rfl (WC.seq (WC.region (WL.assign rfl rfl (WL.nil (WX.then_normal (WC.ret (WX.then_ret (?_))))))))
        refine WX.ret1 (.inl rfl) Try.results10 rfl ?_
        first
          | exact ⟨_, rfl, rfl, kk⟩
          | (refine ⟨_, rfl, ?_, kk⟩; exact congrArg Value.bool (decide_eq_true rfl))
          | (exfalso; exact h39 rfl)
          | (exfalso; exact h43 rfl)
          | (exfalso; exact h48 rfl)
          | (exfalso; exact h53 rfl)
          | (exfalso; exact h63 rfl)
      ·
        refine WL.pickF rfl rfl rfl (WL.move rfl rfl (WL.want rfl rfl rfl (WL.move rfl rfl (WL.want rfl rfl rfl (WL.move rfl rfl (WL.want rfl rfl rfl (?_)))))))
        refine WL.neq? rfl rfl rfl (fun h53 => ?_) (fun h53 => ?_)
        ·
          refine WL.pickF rfl rfl rfl (WL.nil (WX.then_normal (WC.cond_true rfl (WC.seq (WC.region (WL.assign rfl rfl (WL.nil (?_))))))))
          refine WX.then_normal (WC.ret (WX.then_ret (?_)))
          refine WX.ret1 (.inl rfl) Try.results10 rfl ?_
          first
            | exact ⟨_, rfl, rfl, kk⟩
            | (refine ⟨_, rfl, ?_, kk⟩; exact congrArg Value.bool (decide_eq_true rfl))
            | (exfalso; exact h39 rfl)
            | (exfalso; exact h43 rfl)
            | (exfalso; exact h48 rfl)
            | (exfalso; exact h53 rfl)
            | (exfalso; exact h63 rfl)
        ·
          refine WL.pickF rfl rfl rfl (WL.nil (WX.then_normal (WC.cond_false rfl (WC.skip (WX.then_normal (WC.seq (WC.seq (?_))))))))
          refine WC.region (WL.move rfl rfl (?_))
          refine WL.neq? rfl rfl rfl (fun h56 => ?_) (fun h56 => ?_)
          ·
            refine WL.nil (WX.then_normal (WC.cond_true rfl (WC.seq (WC.region (WL.assign rfl rfl (WL.nil (WX.then_normal (?_))))))))
            refine WC.ret (WX.then_ret (?_))
            refine WX.ret1 (.inl rfl) Try.results10 rfl ?_
            first
              | exact ⟨_, rfl, rfl, kk⟩
              | (refine ⟨_, rfl, ?_, kk⟩; exact congrArg Value.bool (decide_eq_true rfl))
              | (exfalso; exact h39 rfl)
              | (exfalso; exact h43 rfl)
              | (exfalso; exact h48 rfl)
              | (exfalso; exact h53 rfl)
              | (exfalso; exact h63 rfl)
          ·
            refine WL.nil (WX.then_normal (WC.cond_false rfl (WC.skip (WX.then_normal (WC.seq (WC.region (WL.move rfl rfl (?_))))))))
            have hr : rightP p := by
              by_cases hr : rightP p
              ·
                exact hr
              ·
                rw [ptrE, if_neg hr] at h56; cases h56
            have hsz : (ptrS p).size ≤ 140737488351232 := by
              have h1 := encAll_len (l := pit p) (fun i hi => ⟨(pit_good hr hw i hi).1, (pit_good hr hw i hi).2.1⟩)
              rw [ptrS, if_pos hr]
              show (encAll (pit p)).toArray.size ≤ _
              simp [pit] at h1 ⊢
              omega
            refine WL.call eg_27 rfl rfl (unptr_calls (ptrS p) _ hsz) ?_
            rw [unp_ptr hr hw]
            rintro v w1 ⟨rfl, k1⟩
            have zs_k1 := k1.size
            replace kk := kk.pure k1
            replace hb_1 := hb_1.pure k1
            replace hb_2 := hb_2.pure k1
            replace hb_4 := hb_4.pure k1
            refine WL.move rfl rfl (WL.extract rfl rfl rfl (WL.extract rfl rfl rfl (?_)))
            refine WL.alloc Try.zeroValue49 rfl ?_
            intro g_6 w_6 hge_6 hlt_6 hb_6 k_6
            have zs_k_6 := k_6.size
            replace kk := kk.pure k_6
            replace hb_1 := hb_1.pure k_6
            replace hb_2 := hb_2.pure k_6
            replace hb_4 := hb_4.pure k_6
            refine WL.stores Try.sizeOf49 hb_6 rfl rfl rfl (by first | exact Enc.one _ _ | (simp [Value.oneCell']; done) | (simp [Value.oneCell', Value.cells]; done)) (Nat.le_of_ble_eq_true rfl) rfl ?_
            intro w_7 hs_7 hn_7 k_7
            have zs_k_7 := k_7.size
            replace kk := kk.chg k_7 (by first | (intro h1; have h2 : _ = _ := h1; exfalso; omega) | (intros; exfalso; (try dsimp only at *); omega) | (intro b h1 h2 h3; exfalso; have h4 := h3.2; (try dsimp only at *); omega) | (intro h1; exfalso; have h4 := h1.2; (try dsimp only at *); omega) | (intro x h1 h2; exfalso; have h4 := h2.2; (try dsimp only at *); omega))
            replace hb_1 := hb_1.chg k_7 (by first | (intro h1; have h2 : _ = _ := h1; exfalso; omega) | (intros; exfalso; (try dsimp only at *); omega) | (intro b h1 h2 h3; exfalso; have h4 := h3.2; (try dsimp only at *); omega) | (intro h1; exfalso; have h4 := h1.2; (try dsimp only at *); omega) | (intro x h1 h2; exfalso; have h4 := h2.2; (try dsimp only at *); omega))
            replace hb_2 := hb_2.chg k_7 (by first | (intro h1; have h2 : _ = _ := h1; exfalso; omega) | (intros; exfalso; (try dsimp only at *); omega) | (intro b h1 h2 h3; exfalso; have h4 := h3.2; (try dsimp only at *); omega) | (intro h1; exfalso; have h4 := h1.2; (try dsimp only at *); omega) | (intro x h1 h2; exfalso; have h4 := h2.2; (try dsimp only at *); omega))
            replace hb_4 := hb_4.chg k_7 (by first | (intro h1; have h2 : _ = _ := h1; exfalso; omega) | (intros; exfalso; (try dsimp only at *); omega) | (intro b h1 h2 h3; exfalso; have h4 := h3.2; (try dsimp only at *); omega) | (intro h1; exfalso; have h4 := h1.2; (try dsimp only at *); omega) | (intro x h1 h2; exfalso; have h4 := h2.2; (try dsimp only at *); omega))
            replace hb_6 := hn_7
            refine WL.assign rfl rfl (WL.nil (WX.then_normal (WC.seq (WC.region (WL.move rfl rfl (?_))))))
            refine WL.eql? rfl rfl rfl (fun h63 => ?_) (fun h63 => ?_)
            ·
              refine WL.move rfl rfl (WL.want rfl rfl rfl (WL.loadsB Try.isAgg49 Try.sizeOf49 hb_6 rfl rfl rfl (WL.want rfl rfl rfl (WL.loadsB Try.isAgg49 Try.sizeOf49 hb_1 rfl rfl rfl (WL.want rfl rfl rfl (WL.aeql eqg_ptr (eq_ptr _ _) rfl rfl rfl (WL.pickT rfl rfl rfl (?_))))))))
              refine WL.assign rfl rfl (WL.nil (WX.then_normal (WC.ret (?_))))
              refine WX.ret1 (.inl rfl) Try.results10 rfl ?_
              first
                | exact ⟨_, rfl, rfl, kk⟩
                | (refine ⟨_, rfl, ?_, kk⟩; exact congrArg Value.bool (decide_eq_true rfl))
                | (exfalso; exact h39 rfl)
                | (exfalso; exact h43 rfl)
                | (exfalso; exact h48 rfl)
                | (exfalso; exact h53 rfl)
                | (exfalso; exact h63 rfl)
            ·
              refine WL.move rfl rfl (WL.pass rfl rfl rfl rfl (WL.pass rfl rfl rfl rfl (WL.pass rfl rfl rfl rfl (WL.pickF rfl rfl rfl (WL.assign rfl rfl (WL.nil (WX.then_normal (?_))))))))
              refine WC.ret (?_)
              refine WX.ret1 (.inl rfl) Try.results10 rfl ?_
              first
                | exact ⟨_, rfl, rfl, kk⟩
                | (refine ⟨_, rfl, ?_, kk⟩; exact congrArg Value.bool (decide_eq_true rfl))
                | (exfalso; exact h39 rfl)
                | (exfalso; exact h43 rfl)
                | (exfalso; exact h48 rfl)
                | (exfalso; exact h53 rfl)
                | (exfalso; exact h63 rfl)
end Go.Proofs.Ytfkaioldfmapjaa
