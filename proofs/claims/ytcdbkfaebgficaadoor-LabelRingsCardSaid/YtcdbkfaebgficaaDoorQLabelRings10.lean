import Derived.Test.YtcdbkfaebgficaaDoorQLabelRings9
namespace Go.Proofs.YtcdbkfaebgficaaDoor
open Go.RowKit Go.HL
set_option maxRecDepth 100000

/-! the slots of a drive -/
def slE (s : RA) (d : Int) : Int := if 8 < s.sn ∧ 0 ≤ d ∧ d < s.dn then errD s d else 1
def slL (s : RA) (d : Int) : List Int := if slE s d = 0 then (wholeL s d).map (·.t) else []
set_option maxHeartbeats 2000000 in
theorem slots_calls {A : Nat → Prop} {w : World} {R : Nat} {s : RA} (h : RK A w R s) (d : Int) :
    Calls Tryd.prog 26 [ptr R, vi d].toArray w (Ret fun v w' => (∃ (ao : Option Addr) (c : Nat), v = .tuple #[.slice ao (slL s d).length c, vi (slE s d)] ∧ Row (w.heap.size ≤ ·) w' 3 ei ao c (slL s d)) ∧ Chg Nob w w') := by
  have hw := Chg.refl Nob w
  have hdn := h.ok.dn
  replace h : RK (fun x => x < w.heap.size) w R s := h.old.mono (fun x hx => hx.2)
  refine Calls.of_WC Tryd.func26 rfl Tryd.ntmps26 (by simp) ?_
  refine WC.seq (WC.region (WL.assign rfl rfl (WL.assign rfl rfl (WL.nil (WX.then_normal (WC.seq (WC.seq (?_))))))))
  refine WC.region (WL.move rfl rfl (?_))
  refine WL.call eg_58 rfl rfl (right_calls h) ?_
  rintro v w1 ⟨rfl, k1⟩
  have zs_k1 := k1.size
  replace h := h.pure k1
  replace hw := hw.pure k1
  by_cases h12 : 8 < s.sn
  ·
    rw [decide_eq_true h12]
    refine WL.not rfl rfl (WL.move rfl rfl (WL.want rfl rfl rfl (WL.move rfl rfl (WL.want rfl rfl rfl (?_)))))
    refine WL.lss? rfl rfl rfl (fun h16 => ?_) (fun h16 => ?_)
    ·
      refine WL.pickF rfl rfl rfl (WL.move rfl rfl (WL.pass rfl rfl rfl rfl (WL.pass rfl rfl rfl rfl (WL.pass rfl rfl rfl rfl (WL.pass rfl rfl rfl rfl (WL.pickT rfl rfl rfl (WL.nil (?_))))))))
      refine WX.then_normal (WC.cond_true rfl (WC.seq (WC.region (WL.assign rfl rfl (WL.assign rfl rfl (WL.nil (WX.then_normal (?_))))))))
      refine WC.ret (WX.then_ret (?_))
      refine WX.ret2 (.inl rfl) Tryd.results26 rfl rfl ?_
      first
        | (have hz : 0 ≤ d ∧ d < (s.dn : Int) := hsd
           have e1 : slE s d = errD s d := by rw [slE, if_pos ⟨h12, hz.1, hz.2⟩]
           first
             | (have hz2 : errD s d = 0 := h31
                have hjl : j = L.length := by omega
                have e2 : slL s d = (L.take j).map (·.t) := by rw [slL, if_pos (e1.trans hz2), hjl, List.take_length, eL]
                rw [e1, e2, hz2]
                exact ⟨_, rfl, ⟨a8, c8, rfl, h8.mono (fun x hx => by omega)⟩, hw⟩)
             | (have hz2 : errD s d ≠ 0 := h31
                have e2 : slL s d = [] := by rw [slL, if_neg (by rw [e1]; exact hz2)]
                rw [e1, e2]
                exact ⟨_, rfl, ⟨none, 0, rfl, Row.nil _ _ _ _⟩, hw⟩))
        | (have e1 : slE s d = 1 := by
             rw [slE, if_neg]
             rintro ⟨g1, g2, g3⟩
             first
               | omega
               | exact h12 g1
           have e2 : slL s d = [] := by rw [slL, if_neg (by rw [e1]; decide)]
           rw [e1, e2]
           exact ⟨_, rfl, ⟨none, 0, rfl, Row.nil _ _ _ _⟩, hw⟩)
    ·
      refine WL.pickF rfl rfl rfl (WL.move rfl rfl (WL.want rfl rfl rfl (WL.move rfl rfl (WL.want rfl rfl rfl (WL.move rfl rfl (WL.want rfl rfl rfl (?_)))))))
      refine WL.call eg_59 rfl rfl (Drives_calls h) ?_
      rintro v w4 ⟨rfl, k4⟩
      have zs_k4 := k4.size
      replace h := h.pure k4
      replace hw := hw.pure k4
      refine WL.want rfl rfl rfl (?_)
      refine WL.geq? rfl rfl rfl (fun h22 => ?_) (fun h22 => ?_)
      ·
        refine WL.pickF rfl rfl rfl (WL.nil (WX.then_normal (WC.cond_true rfl (WC.seq (WC.region (WL.assign rfl rfl (WL.assign rfl rfl (?_))))))))
        refine WL.nil (WX.then_normal (WC.ret (WX.then_ret (?_))))
        refine WX.ret2 (.inl rfl) Tryd.results26 rfl rfl ?_
        first
          | (have hz : 0 ≤ d ∧ d < (s.dn : Int) := hsd
             have e1 : slE s d = errD s d := by rw [slE, if_pos ⟨h12, hz.1, hz.2⟩]
             first
               | (have hz2 : errD s d = 0 := h31
                  have hjl : j = L.length := by omega
                  have e2 : slL s d = (L.take j).map (·.t) := by rw [slL, if_pos (e1.trans hz2), hjl, List.take_length, eL]
                  rw [e1, e2, hz2]
                  exact ⟨_, rfl, ⟨a8, c8, rfl, h8.mono (fun x hx => by omega)⟩, hw⟩)
               | (have hz2 : errD s d ≠ 0 := h31
                  have e2 : slL s d = [] := by rw [slL, if_neg (by rw [e1]; exact hz2)]
                  rw [e1, e2]
                  exact ⟨_, rfl, ⟨none, 0, rfl, Row.nil _ _ _ _⟩, hw⟩))
          | (have e1 : slE s d = 1 := by
               rw [slE, if_neg]
               rintro ⟨g1, g2, g3⟩
               first
                 | omega
                 | exact h12 g1
             have e2 : slL s d = [] := by rw [slL, if_neg (by rw [e1]; decide)]
             rw [e1, e2]
             exact ⟨_, rfl, ⟨none, 0, rfl, Row.nil _ _ _ _⟩, hw⟩)
      ·
        refine WL.pickF rfl rfl rfl (WL.nil (WX.then_normal (WC.cond_false rfl (WC.skip (WX.then_normal (WC.seq (WC.region (?_))))))))
        refine WL.move rfl rfl (WL.move rfl rfl (?_))
        have hsd : isS s d := ⟨by omega, by omega⟩
        refine WL.call eg_61 rfl rfl (whole_calls h hsd h12) ?_
        rintro v w5 ⟨⟨ao, c, rfl, hq⟩, k5⟩
        obtain ⟨L, eL⟩ : ∃ L, L = wholeL s d := ⟨_, rfl⟩
        have hLl : L.length ≤ 8 := by rw [eL, wholeL]; split; rw [outK_len]; omega; simp
        rw [← eL] at hq ⊢
        have zs_k5 := k5.size
        replace h := h.pure k5
        replace hw := hw.pure k5
        replace hq := hq.lt
        refine WL.move rfl rfl (WL.extract rfl rfl rfl (WL.extract rfl rfl rfl (WL.assign rfl rfl (WL.assign rfl rfl (WL.nil (WX.then_normal (WC.seq (?_))))))))
        refine WC.seq (WC.region (WL.move rfl rfl (?_)))
        refine WL.neq? rfl rfl rfl (fun h31 => ?_) (fun h31 => ?_)
        ·
          refine WL.nil (WX.then_normal (WC.cond_true rfl (WC.seq (WC.region (WL.move rfl rfl (WL.assign rfl rfl (WL.assign rfl rfl (?_))))))))
          refine WL.nil (WX.then_normal (WC.ret (WX.then_ret (?_))))
          refine WX.ret2 (.inl rfl) Tryd.results26 rfl rfl ?_
          first
            | (have hz : 0 ≤ d ∧ d < (s.dn : Int) := hsd
               have e1 : slE s d = errD s d := by rw [slE, if_pos ⟨h12, hz.1, hz.2⟩]
               first
                 | (have hz2 : errD s d = 0 := h31
                    have hjl : j = L.length := by omega
                    have e2 : slL s d = (L.take j).map (·.t) := by rw [slL, if_pos (e1.trans hz2), hjl, List.take_length, eL]
                    rw [e1, e2, hz2]
                    exact ⟨_, rfl, ⟨a8, c8, rfl, h8.mono (fun x hx => by omega)⟩, hw⟩)
                 | (have hz2 : errD s d ≠ 0 := h31
                    have e2 : slL s d = [] := by rw [slL, if_neg (by rw [e1]; exact hz2)]
                    rw [e1, e2]
                    exact ⟨_, rfl, ⟨none, 0, rfl, Row.nil _ _ _ _⟩, hw⟩))
            | (have e1 : slE s d = 1 := by
                 rw [slE, if_neg]
                 rintro ⟨g1, g2, g3⟩
                 first
                   | omega
                   | exact h12 g1
               have e2 : slL s d = [] := by rw [slL, if_neg (by rw [e1]; decide)]
               rw [e1, e2]
               exact ⟨_, rfl, ⟨none, 0, rfl, Row.nil _ _ _ _⟩, hw⟩)
        ·
          refine WL.nil (WX.then_normal (WC.cond_false rfl (WC.skip (WX.then_normal (WC.seq (WC.region (WL.assign rfl rfl (?_))))))))
          refine WL.nil (WX.then_normal (WC.seq (WC.seq (WC.region (WL.move rfl rfl (WL.len Tryd.underlying103 rfl rfl (WL.move rfl rfl (?_))))))))
          refine WL.nil (WX.then_normal (WC.block (?_)))
          obtain ⟨n5, en5⟩ : ∃ n5, n5 = w5.heap.size := ⟨_, rfl⟩
          refine WC.loop (σ := Nat × Option Addr × Nat) (fun q => [(0, ptr R), (1, vi d), (8, .slice q.2.1 ((L.take q.1).map (·.t)).length q.2.2), (33, .slice ao L.length c), (34, vi (L.length : Int)), (35, vi (q.1 : Int))])
            (fun q w' => q.1 ≤ L.length ∧ Row (fun x => w.heap.size ≤ x ∧ x < n5) w' 48 eub ao c L ∧ n5 ≤ w'.heap.size ∧ Row (fun x => n5 ≤ x) w' 3 ei q.2.1 q.2.2 ((L.take q.1).map (·.t)) ∧ Chg Nob w w') (fun q => L.length - q.1) (0, none, 0) ⟨rfl, rfl, rfl, rfl, rfl, rfl, trivial⟩
            ⟨Nat.zero_le _, hq.mono (fun x hx => by omega), by omega, Row.nil _ _ _ _, hw⟩ ?_
          clear hq h hw
          rintro ⟨j, a8, c8⟩ w6 ⟨hj, hq, hn5, h8, hw⟩
          dsimp only at hj hq hn5 h8 hw ⊢
          replace h8 := h8.lt
          have hml : ((L.take j).map (·.t)).length = j := by rw [List.length_map, List.length_take]; omega
          refine WC.seq (WC.region (?_))
          refine WL.lss? rfl rfl rfl (fun h36 => ?_) (fun h36 => ?_)
          ·
            refine WL.nil (WX.then_normal (WC.seq (WC.cond_true rfl (WC.skip (WX.then_normal (WC.seq (WC.block (?_))))))))
            refine WC.seq (WC.region (?_))
            obtain ⟨u, hu⟩ : ∃ u, L[j]? = some u := ⟨_, List.getElem?_eq_getElem (by omega)⟩
            refine WL.indexT Tryd.underlying103 Tryd.sizeOf48 hq.rsl rfl rfl ⟨hu, rfl⟩ rfl ?_
            intro b_1 o_1 hc_1
            refine WL.loads _ Tryd.isAgg48 Tryd.sizeOf48 rfl hc_1 rfl rfl (?_)
            refine WL.alloc Tryd.zeroValue48 rfl ?_
            intro g_2 w_2 hge_2 hlt_2 hb_2 k_2
            have zs_k_2 := k_2.size
            replace hq := hq.pure k_2
            replace h8 := h8.pure k_2
            replace hw := hw.pure k_2
            refine WL.stores Tryd.sizeOf48 hb_2 rfl rfl (by first | (simp; done) | (simp; omega) | rfl) (by first | exact Enc.one _ _ | (intro u hu; obtain ⟨x, _, rfl⟩ := List.mem_map.1 hu; rfl) | (simp [Value.oneCell']; done) | (simp [Value.oneCell', Value.cells]; done)) (by first | (simp; done) | (simp; omega) | (simp [Value.cells]; done) | (simp [Value.cells]; omega) | exact Nat.le_of_ble_eq_true rfl) rfl ?_
            intro w_3 hs_3 hn_3 k_3
            have zs_k_3 := k_3.size
            replace hq := hq.chg k_3 (by first | (intro x h1 h2; exact h2) | (intro x h0 h1 h2; exact hS x h1 h2) | (intro x h0 h1 h2; have h3 : _ = _ := h2; subst h3; exact hSR h1.1) | (intro x h1 h2; have h3 : _ = _ := h2; subst h3; assumption) | (intro x h1 h2; have h3 : _ = _ := h2; exfalso; omega) | (intro b h1 h2 h3; have h4 : _ = _ := h3; (try dsimp only at h2); exfalso; omega) | (intro h1; have h2 : _ = _ := h1; exfalso; omega) | (intro h1; have h2 : _ ≤ _ := h1; exfalso; omega) | (intros; exfalso; (try dsimp only at *); omega) | (intro b h1 h2 h3; exfalso; have h4 := h3.2; (try dsimp only at *); omega) | (intro h1; exfalso; have h4 := h1.2; (try dsimp only at *); omega) | (intro x h1 h2; exfalso; have h4 := h2.2; (try dsimp only at *); omega) | (intro x h1 h2; exact ⟨_, rfl, h2⟩) | (intro x h1 h2; have h4 := h2.1; have h5 := h2.2; exfalso; omega) | (intro x h1 h2; exact h2.1) | (intro x h1 h2; rcases h2.1 with h3 | h3; exact h3; exfalso; omega) | (intro x h1 h2; rcases h2 with h3 | h3; exact h3; exfalso; omega))
            replace h8 := h8.chg k_3 (by first | (intro x h1 h2; exact h2) | (intro x h0 h1 h2; exact hS x h1 h2) | (intro x h0 h1 h2; have h3 : _ = _ := h2; subst h3; exact hSR h1.1) | (intro x h1 h2; have h3 : _ = _ := h2; subst h3; assumption) | (intro x h1 h2; have h3 : _ = _ := h2; exfalso; omega) | (intro b h1 h2 h3; have h4 : _ = _ := h3; (try dsimp only at h2); exfalso; omega) | (intro h1; have h2 : _ = _ := h1; exfalso; omega) | (intro h1; have h2 : _ ≤ _ := h1; exfalso; omega) | (intros; exfalso; (try dsimp only at *); omega) | (intro b h1 h2 h3; exfalso; have h4 := h3.2; (try dsimp only at *); omega) | (intro h1; exfalso; have h4 := h1.2; (try dsimp only at *); omega) | (intro x h1 h2; exfalso; have h4 := h2.2; (try dsimp only at *); omega) | (intro x h1 h2; exact ⟨_, rfl, h2⟩) | (intro x h1 h2; have h4 := h2.1; have h5 := h2.2; exfalso; omega) | (intro x h1 h2; exact h2.1) | (intro x h1 h2; rcases h2.1 with h3 | h3; exact h3; exfalso; omega) | (intro x h1 h2; rcases h2 with h3 | h3; exact h3; exfalso; omega))
            replace hw := hw.chg k_3 (by first | (intro x h1 h2; exact h2) | (intro x h0 h1 h2; exact hS x h1 h2) | (intro x h0 h1 h2; have h3 : _ = _ := h2; subst h3; exact hSR h1.1) | (intro x h1 h2; have h3 : _ = _ := h2; subst h3; assumption) | (intro x h1 h2; have h3 : _ = _ := h2; exfalso; omega) | (intro b h1 h2 h3; have h4 : _ = _ := h3; (try dsimp only at h2); exfalso; omega) | (intro h1; have h2 : _ = _ := h1; exfalso; omega) | (intro h1; have h2 : _ ≤ _ := h1; exfalso; omega) | (intros; exfalso; (try dsimp only at *); omega) | (intro b h1 h2 h3; exfalso; have h4 := h3.2; (try dsimp only at *); omega) | (intro h1; exfalso; have h4 := h1.2; (try dsimp only at *); omega) | (intro x h1 h2; exfalso; have h4 := h2.2; (try dsimp only at *); omega) | (intro x h1 h2; exact ⟨_, rfl, h2⟩) | (intro x h1 h2; have h4 := h2.1; have h5 := h2.2; exfalso; omega) | (intro x h1 h2; exact h2.1) | (intro x h1 h2; rcases h2.1 with h3 | h3; exact h3; exfalso; omega) | (intro x h1 h2; rcases h2 with h3 | h3; exact h3; exfalso; omega))
            replace hb_2 := hn_3
            refine WL.nil (WX.then_normal (WC.region (WL.move rfl rfl (WL.fieldAddr (fld_48_0) rfl rfl (?_)))))
            have hb9 := Blk.eqc (cs' := eub.f u) hb_2 rfl
            refine WL.loadB Tryd.isAgg3 hb9 rfl rfl rfl ?_
            refine WL.build (e := ei) [u.t] Tryd.underlying49 Tryd.sizeOf3 Tryd.zeroValue3 rfl rfl rfl (by first | (simp [Value.cells]; done) | (simp [Value.cells] <;> rfl) | (simp [Value.cells, eb, ei, es, ebool, e32, e64]; done)) (by decide) rfl ?_
            intro a_hn w_hn hn l_hn z_hn k_hn
            have zs_k_hn := k_hn.size
            replace hq := hq.pure k_hn
            replace h8 := h8.pure k_hn
            replace hw := hw.pure k_hn
            replace h8 := h8.mono (S' := fun x => n5 ≤ x) (fun x hx => hx.1)
            refine WL.append (e := ei) info_3 rfl Tryd.underlying49 rfl rfl h8 (hn.rsl.src Tryd.underlying49) (by (try simp only [List.length_append, List.length_cons, List.length_nil] at *); omega) (by intro b hb; first | (apply hS; omega) | ((try dsimp only); omega)) rfl ?_
            intro a_hq9 c_hq9 w_hq9 hq9 g_hq9 n_hq9
            have z_hq9 := g_hq9.chg.size
            have zs_g_hq9_chg := g_hq9.chg.size
            replace hq := hq.chg g_hq9.chg (by first | (intro x h1 h2; exact h2) | (intro x h0 h1 h2; exact hS x h1 h2) | (intro x h0 h1 h2; have h3 : _ = _ := h2; subst h3; exact hSR h1.1) | (intro x h1 h2; have h3 : _ = _ := h2; subst h3; assumption) | (intro x h1 h2; have h3 : _ = _ := h2; exfalso; omega) | (intro b h1 h2 h3; have h4 : _ = _ := h3; (try dsimp only at h2); exfalso; omega) | (intro h1; have h2 : _ = _ := h1; exfalso; omega) | (intro h1; have h2 : _ ≤ _ := h1; exfalso; omega) | (intros; exfalso; (try dsimp only at *); omega) | (intro b h1 h2 h3; exfalso; have h4 := h3.2; (try dsimp only at *); omega) | (intro h1; exfalso; have h4 := h1.2; (try dsimp only at *); omega) | (intro x h1 h2; exfalso; have h4 := h2.2; (try dsimp only at *); omega) | (intro x h1 h2; exact ⟨_, rfl, h2⟩) | (intro x h1 h2; have h4 := h2.1; have h5 := h2.2; exfalso; omega) | (intro x h1 h2; exact h2.1) | (intro x h1 h2; rcases h2.1 with h3 | h3; exact h3; exfalso; omega) | (intro x h1 h2; rcases h2 with h3 | h3; exact h3; exfalso; omega))
            replace hw := hw.chg g_hq9.chg (by first | (intro x h1 h2; exact h2) | (intro x h0 h1 h2; exact hS x h1 h2) | (intro x h0 h1 h2; have h3 : _ = _ := h2; subst h3; exact hSR h1.1) | (intro x h1 h2; have h3 : _ = _ := h2; subst h3; assumption) | (intro x h1 h2; have h3 : _ = _ := h2; exfalso; omega) | (intro b h1 h2 h3; have h4 : _ = _ := h3; (try dsimp only at h2); exfalso; omega) | (intro h1; have h2 : _ = _ := h1; exfalso; omega) | (intro h1; have h2 : _ ≤ _ := h1; exfalso; omega) | (intros; exfalso; (try dsimp only at *); omega) | (intro b h1 h2 h3; exfalso; have h4 := h3.2; (try dsimp only at *); omega) | (intro h1; exfalso; have h4 := h1.2; (try dsimp only at *); omega) | (intro x h1 h2; exfalso; have h4 := h2.2; (try dsimp only at *); omega) | (intro x h1 h2; exact ⟨_, rfl, h2⟩) | (intro x h1 h2; have h4 := h2.1; have h5 := h2.2; exfalso; omega) | (intro x h1 h2; exact h2.1) | (intro x h1 h2; rcases h2.1 with h3 | h3; exact h3; exfalso; omega) | (intro x h1 h2; rcases h2 with h3 | h3; exact h3; exfalso; omega))
            refine WL.assign rfl rfl (WL.nil (WX.block_normal (WX.then_normal (WC.region (WL.add64 rfl rfl (by first | omega | (constructor <;> omega)) rfl (WL.move rfl rfl (WL.nil (?_))))))))
            have e1 : (L.take (j + 1)).map (·.t) = (L.take j).map (·.t) ++ [u.t] := by
              rw [List.take_add_one, hu, List.map_append]
              rfl
            refine WX.loop_next (j + 1, a_hq9, c_hq9) ⟨rfl, rfl, ?_, rfl, rfl, rfl, trivial⟩ ⟨by dsimp only; omega, hq, by omega, ?_, hw⟩ (by show _ - _ < _ - _; omega)
            ·
              dsimp only; rw [e1]; rfl
            ·
              dsimp only; rw [e1]; exact hq9
          ·
            refine WL.nil (WX.then_normal (WC.seq (WC.cond_false rfl (WC.exit (WX.then_exit (WX.then_exit (WX.block_here (?_))))))))
            refine WX.then_normal (WC.seq (WC.region (WL.move rfl rfl (WL.assign rfl rfl (WL.assign rfl rfl (WL.nil (WX.then_normal (?_))))))))
            refine WC.ret (?_)
            refine WX.ret2 (.inl rfl) Tryd.results26 rfl rfl ?_
            first
              | (have hz : 0 ≤ d ∧ d < (s.dn : Int) := hsd
                 have e1 : slE s d = errD s d := by rw [slE, if_pos ⟨h12, hz.1, hz.2⟩]
                 first
                   | (have hz2 : errD s d = 0 := h31
                      have hjl : j = L.length := by omega
                      have e2 : slL s d = (L.take j).map (·.t) := by rw [slL, if_pos (e1.trans hz2), hjl, List.take_length, eL]
                      rw [e1, e2, hz2]
                      exact ⟨_, rfl, ⟨a8, c8, rfl, h8.mono (fun x hx => by omega)⟩, hw⟩)
                   | (have hz2 : errD s d ≠ 0 := h31
                      have e2 : slL s d = [] := by rw [slL, if_neg (by rw [e1]; exact hz2)]
                      rw [e1, e2]
                      exact ⟨_, rfl, ⟨none, 0, rfl, Row.nil _ _ _ _⟩, hw⟩))
              | (have e1 : slE s d = 1 := by
                   rw [slE, if_neg]
                   rintro ⟨g1, g2, g3⟩
                   first
                     | omega
                     | exact h12 g1
                 have e2 : slL s d = [] := by rw [slL, if_neg (by rw [e1]; decide)]
                 rw [e1, e2]
                 exact ⟨_, rfl, ⟨none, 0, rfl, Row.nil _ _ _ _⟩, hw⟩)
  ·
    rw [decide_eq_false h12]
    refine WL.not rfl rfl (WL.move rfl rfl (WL.pass rfl rfl rfl rfl (WL.pass rfl rfl rfl rfl (WL.pickT rfl rfl rfl (WL.move rfl rfl (WL.pass rfl rfl rfl rfl (WL.pass rfl rfl rfl rfl (?_))))))))
    refine WL.pass rfl rfl rfl rfl (WL.pass rfl rfl rfl rfl (WL.pickT rfl rfl rfl (WL.nil (WX.then_normal (WC.cond_true rfl (WC.seq (WC.region (?_))))))))
    refine WL.assign rfl rfl (WL.assign rfl rfl (WL.nil (WX.then_normal (WC.ret (WX.then_ret (?_))))))
    refine WX.ret2 (.inl rfl) Tryd.results26 rfl rfl ?_
    first
      | (have hz : 0 ≤ d ∧ d < (s.dn : Int) := hsd
         have e1 : slE s d = errD s d := by rw [slE, if_pos ⟨h12, hz.1, hz.2⟩]
         first
           | (have hz2 : errD s d = 0 := h31
              have hjl : j = L.length := by omega
              have e2 : slL s d = (L.take j).map (·.t) := by rw [slL, if_pos (e1.trans hz2), hjl, List.take_length, eL]
              rw [e1, e2, hz2]
              exact ⟨_, rfl, ⟨a8, c8, rfl, h8.mono (fun x hx => by omega)⟩, hw⟩)
           | (have hz2 : errD s d ≠ 0 := h31
              have e2 : slL s d = [] := by rw [slL, if_neg (by rw [e1]; exact hz2)]
              rw [e1, e2]
              exact ⟨_, rfl, ⟨none, 0, rfl, Row.nil _ _ _ _⟩, hw⟩))
      | (have e1 : slE s d = 1 := by
           rw [slE, if_neg]
           rintro ⟨g1, g2, g3⟩
           first
             | omega
             | exact h12 g1
         have e2 : slL s d = [] := by rw [slL, if_neg (by rw [e1]; decide)]
         rw [e1, e2]
         exact ⟨_, rfl, ⟨none, 0, rfl, Row.nil _ _ _ _⟩, hw⟩)
end Go.Proofs.YtcdbkfaebgficaaDoor
namespace Go.Proofs.YtcdbkfaebgficaaDoor
open Go.RowKit Go.HL
set_option maxRecDepth 100000

/-! a drive that is lost, one that is replaced -/
/-! behind Arm -/
structure Arms (n i : Nat) (s : RA) : Prop where
  dn : s.dn = 3
  sn : s.sn = 4
  g0 : goneS s 0 = false
  g1 : goneS s 1 = true
  g2 : goneS s 2 = false
  armed : s.armed = true
  off : offS s = decide (n ≤ i)
  left : i < n → s.left = (n : Int) - i ∧ s.off = false
  len : s.waits.length ≤ i
theorem Arms.step {n i : Nat} {s t : RA} (h : Arms n i s) (e1 : t.dn = s.dn) (e2 : t.sn = s.sn) (e3 : t.gone = s.gone) (e4 : t.armed = (spendS s).armed) (e5 : t.off = (spendS s).off) (e6 : t.left = (spendS s).left) (hl : t.waits.length ≤ i + 1) : Arms n (i + 1) t := by
  have hg : ∀ d, goneS t d = goneS s d := fun d => by rw [goneS, goneS, e3]
  have h1 := h.armed
  have h2 := h.off
  have h3 : (spendS s).armed = true := by unfold spendS; split <;> exact h1
  by_cases hi : i < n
  · obtain ⟨h4, h5⟩ := h.left hi
    have h6 : offS s = false := by rw [h2]; simp; omega
    have h7 : spendS s = { s with left := s.left - 1 } := by
      unfold spendS
      rw [h6, h1]
      rfl
    rw [h7] at e4 e5 e6
    have e5' : t.off = false := e5.trans h5
    have e6' : t.left = (n : Int) - i - 1 := e6.trans (by show s.left - 1 = _; rw [h4])
    refine ⟨e1.trans h.dn, e2.trans h.sn, (hg 0).trans h.g0, (hg 1).trans h.g1, (hg 2).trans h.g2, e4.trans h1, ?_, fun h8 => ⟨?_, e5'⟩, hl⟩
    · unfold offS
      rw [e5', e4.trans h1, e6']
      simp
      omega
    · rw [e6']
      omega
  · have h6 : offS s = true := by rw [h2]; simp; omega
    have h7 : spendS s = { s with off := true } := by
      unfold spendS
      rw [h6]
      rfl
    rw [h7] at e4 e5
    refine ⟨e1.trans h.dn, e2.trans h.sn, (hg 0).trans h.g0, (hg 1).trans h.g1, (hg 2).trans h.g2, e4.trans h1, ?_, fun h8 => by omega, hl⟩
    unfold offS
    rw [show t.off = true from e5]
    simp
    omega
theorem Arms.flush {n i : Nat} {s : RA} (h : Arms n i s) : Arms n (i + 1) (flushS s) := by
  have hl := h.len
  unfold flushS
  split
  · exact h.step (spendS_dn s) (spendS_sn s) (spendS_gone s) rfl rfl rfl (by rw [spendS_waits]; omega)
  · exact h.step (spendS_dn s) (spendS_sn s) (spendS_gone s) rfl rfl rfl (Nat.zero_le _)
theorem Arms.write {n i : Nat} {s : RA} (h : Arms n i s) {d a : Int} {b : List UInt8} (hi : inS s d a) (hg : goneS s d = false) (hb : b.length = 128) : Arms n (i + 1) (writeS s d a b) ∧ writeE s d a b.length = (if offS s = true then 16 else 0) := by
  have hl := h.len
  have he : writeE s d a b.length = (if offS s = true then 16 else 0) := by
    rw [hb]
    simp [writeE, hi, hg]
  refine ⟨?_, he⟩
  unfold writeS
  rw [he]
  by_cases ho : offS s = true
  · rw [if_pos ho, if_neg (by decide), if_pos rfl]
    exact h.step (spendS_dn s) (spendS_sn s) (spendS_gone s) rfl rfl rfl (by rw [spendS_waits]; omega)
  · rw [if_neg ho, if_pos rfl]
    exact h.step (spendS_dn s) (spendS_sn s) (spendS_gone s) rfl rfl rfl (by
      show (s.waits ++ [_]).length ≤ _
      rw [List.length_append]
      simpa using hl)
end Go.Proofs.YtcdbkfaebgficaaDoor
namespace Go.Proofs.YtcdbkfaebgficaaDoor
open Go.RowKit Go.HL
set_option maxRecDepth 100000

/-- what is wanted of a sector -/
def wantV (B : Int → List UInt8) (v : Int) : List UInt8 := if 0 < v then B (v - 1) else zeros
/-- the last write to each of forty sectors: one more of it, or nought -/
structure Lasts (B : Int → List UInt8) (L : List Int) (s : RA) : Prop where
  dn : s.dn = 5
  sn : s.sn = 8
  up : Up s
  gone : ∀ d, goneS s d = false
  len : L.length = 40
  held : ∀ d a : Nat, d < 5 → a < 8 → heldS s ((d : Int), (a : Int)) = wantV B (L.getD (d * 8 + a) 0)
  val : ∀ j, 0 ≤ L.getD j 0 ∧ L.getD j 0 ≤ 100000
theorem Lasts.write {B : Int → List UInt8} {L : List Int} {s : RA} (h : Lasts B L s) {d a : Nat} (hd : d < 5) (ha : a < 8) {f : Int} (hf : 0 ≤ f ∧ f < 100000) : Lasts B (L.set (d * 8 + a) (1 + f)) (addS s ((d : Int), (a : Int)) (B f)) := by
  have hlen := h.len
  refine ⟨h.dn, h.sn, addS_up h.up _ _, h.gone, by rw [List.length_set, hlen], fun d2 a2 h2 h3 => ?_, fun j => ?_⟩
  · rw [addS_held, List.getD_eq_getElem?_getD, List.getElem?_set]
    by_cases e : d * 8 + a = d2 * 8 + a2
    · have e1 : d = d2 := by omega
      have e2 : a = a2 := by omega
      subst e1; subst e2
      rw [if_pos rfl, if_pos rfl, if_pos (by omega)]
      show B f = wantV B (1 + f)
      rw [wantV, if_pos (by omega), show 1 + f - 1 = f from by omega]
    · rw [if_neg (fun e2 => e (by injection e2 with e3 e4; have e3' : (d2 : Int) = d := e3; have e4' : (a2 : Int) = a := e4; omega)), if_neg e, h.held d2 a2 h2 h3, List.getD_eq_getElem?_getD]
  · rw [List.getD_eq_getElem?_getD, List.getElem?_set]
    split
    · split
      · show 0 ≤ 1 + f ∧ 1 + f ≤ 100000
        omega
      · show 0 ≤ (0 : Int) ∧ (0 : Int) ≤ 100000
        omega
    · rw [← List.getD_eq_getElem?_getD]
      exact h.val j
end Go.Proofs.YtcdbkfaebgficaaDoor
namespace Go.Proofs.YtcdbkfaebgficaaDoor
open Go.RowKit Go.HL
set_option maxRecDepth 100000

/-! the ring of slots -/
def ringU (f : Int) : Nat → Nat → UbV
  | 0, _ => ⟨-1, zeroP⟩
  | i + 1, a => if (f + i) % 8 = (a : Int) then ubV (f + i) (f + i) else ringU f i a
theorem ringU_le (f : Int) (hf : 1 ≤ f) (i a : Nat) : (ringU f i a).t < f + i ∧ ((ringU f i a).t = -1 ∨ f ≤ (ringU f i a).t) := by
  induction i with
  | zero => exact ⟨by show (-1 : Int) < f + (0 : Nat); omega, .inl rfl⟩
  | succ i ih =>
    rw [ringU]
    split
    · exact ⟨by show f + (i : Int) < f + ((i + 1 : Nat) : Int); omega, .inr (by show f ≤ f + (i : Int); omega)⟩
    · exact ⟨by omega, ih.2⟩
structure RingI (f : Int) (i : Nat) (s : RA) : Prop where
  dn : s.dn = 3
  sn : s.sn = 9
  up : Up s
  gone : ∀ d, goneS s d = false
  slot : ∀ d a : Nat, d < 3 → slotU s (d : Nat) a = ringU f i a
  len : s.waits.length ≤ 3 * i
theorem RingI.next {f : Int} {i : Nat} {s : RA} (h : RingI f i s) (hf : 1 ≤ f ∧ f + i ≤ 1000000) : RingI f (i + 1) (lwS s (ubV (f + i) (f + i))) ∧ lwN s (ubV (f + i) (f + i)) = 3 ∧ lwE s (ubV (f + i) (f + i)) = 0 := by
  have hE : encE (ubV (f + i) (f + i)) = 0 := ubV_enc (by omega)
  have hW : WfU (ubV (f + i) (f + i)) := ubV_wf (by omega)
  have h8 : 8 < s.sn := by rw [h.sn]; omega
  obtain ⟨f1, f2, f3, f4, f5, f6⟩ := lwS_facts h.up h8 hE
  obtain ⟨-, e2, e3⟩ := lw_up h.up h8 hE
  rw [cntD_all h.gone, h.dn] at e2 e3
  refine ⟨⟨f2.trans h.dn, f3.trans h.sn, f1, fun d => (f4 d).trans (h.gone d), fun d a hd => ?_, ?_⟩, e2, e3⟩
  · rw [lwS_slot h.up h8 hE hW d (by rw [h.dn]; exact hd), h.slot d a hd, ringU]
    by_cases hc : (f + i) % 8 = (a : Int)
    · rw [if_pos ⟨hc.symm, h.gone _⟩, if_pos hc]
    · rw [if_neg (fun x => hc x.1.symm), if_neg hc]
  · have := h.len
    have := h.dn
    omega
theorem RingI.newest {f : Int} {i : Nat} {s : RA} (h : RingI f (i + 1) s) (hf : 1 ≤ f) : nwU s = ubV (f + i) (f + i) ∧ nwE s = 0 := by
  refine newest_is h.up (by rw [h.sn]; omega) (by show 0 < f + (i : Int); omega) ⟨0, by rw [h.dn]; omega, h.gone _, ((f + i) % 8).toNat, by omega, ?_⟩ (fun d hd _ a _ => ?_)
  · rw [h.slot 0 _ (by omega), ringU, if_pos (by omega)]
  · rw [h.slot d a (by rw [← h.dn]; exact hd), ringU]
    split
    · exact ⟨Int.le_refl _, fun _ => rfl⟩
    · have := (ringU_le f hf i a).1
      exact ⟨by show (ringU f i a).t ≤ f + (i : Int); omega, fun h9 => by have h10 : (ringU f i a).t = f + (i : Int) := h9; omega⟩
theorem RingI.slots {f : Int} {i : Nat} {s : RA} (h : RingI f i s) {d : Nat} (hd : d < 3) : slE s (d : Nat) = 0 ∧ (slL s (d : Nat)).length = 8 ∧ ∀ a, a < 8 → (slL s (d : Nat))[a]? = some (ringU f i a).t := by
  have e1 : errD s (d : Nat) = 0 := errD_up h.up _ (h.gone _)
  have e2 : slE s (d : Nat) = 0 := by rw [slE, if_pos ⟨by rw [h.sn]; omega, by omega, by rw [h.dn]; omega⟩, e1]
  have e3 : slL s (d : Nat) = (outK s (d : Nat) 8).map (·.t) := by rw [slL, if_pos e2, wholeL, if_pos e1]
  refine ⟨e2, by rw [e3, List.length_map, outK_len], fun a ha => ?_⟩
  rw [e3, List.getElem?_map, outK, List.getElem?_map, List.getElem?_range ha]
  simp only [Option.map_some, ha, if_true]
  rw [h.slot d a hd]
end Go.Proofs.YtcdbkfaebgficaaDoor
namespace Go.Proofs.YtcdbkfaebgficaaDoor
open Go.RowKit Go.HL
set_option maxRecDepth 100000

set_option maxHeartbeats 4000000 in
theorem labelRings_calls {w : World} (x0 x1 : Int) :
    Calls Tryd.prog 5 [vi x0, vi x1].toArray w (Ret fun v w' => v = .bool true ∧ Chg Nob w w') := by
  have hw := Chg.refl Nob w
  obtain ⟨s0, sd, sn, u0, sg, sh, -, sw, hNew⟩ := new_all 3 9 (by decide) (by decide)
  have sw0 : s0.waits.length = 0 := by rw [sw]; rfl
  obtain ⟨c0, hc0⟩ : ∃ c, c = (B64 x0 % 20).toNat := ⟨_, rfl⟩
  have hc5 : c0 < 20 := by rw [hc0, UInt64.toNat_mod]; exact Nat.mod_lt _ (by decide)
  obtain ⟨f0, hf0⟩ : ∃ f, f = (B64 x1 % 1000).toNat := ⟨_, rfl⟩
  have hf5 : f0 < 1000 := by rw [hf0, UInt64.toNat_mod]; exact Nat.mod_lt _ (by decide)
  obtain ⟨c, hc⟩ : ∃ c : Nat, c = c0 + 1 := ⟨_, rfl⟩
  obtain ⟨f, hf⟩ : ∃ f : Int, f = 1 + (f0 : Int) := ⟨_, rfl⟩
  have hfr : 1 ≤ f ∧ f ≤ 1000 := by omega
  have hI0 : RingI f 0 s0 := ⟨sd, sn, u0, sg, fun d a _ => fresh_slot sh _ _, by omega⟩
  refine Calls.of_WC Tryd.func5 rfl Tryd.ntmps5 (by simp) ?_
  refine WC.seq (WC.region (WL.assign rfl rfl (WL.nil (WX.then_normal (WC.seq (WC.seq (WC.region (?_))))))))
  refine WL.call eg_22 rfl rfl (known8_calls _) ?_
  rintro v w1 ⟨rfl, k1⟩
  have zs_k1 := k1.size
  replace hw := hw.pure k1
  refine WL.not rfl rfl (WL.nil (WX.then_normal (WC.cond_false rfl (WC.skip (WX.then_normal (WC.seq (WC.region (?_))))))))
  refine WL.call eg_23 rfl rfl (hNew _) ?_
  rintro v w2 ⟨⟨R, rfl, hR⟩, k2⟩
  replace hR := hR.mono (A' := (w.heap.size ≤ ·)) (fun x hx => by have := hw.size; omega)
  have zs_k2 := k2.size
  replace hw := hw.pure k2
  refine WL.move rfl rfl (WL.extract rfl rfl rfl (WL.extract rfl rfl rfl (WL.assign rfl rfl (WL.assign rfl rfl (WL.nil (WX.then_normal (WC.seq (?_))))))))
  refine WC.seq (WC.region (WL.move rfl rfl (?_)))
  refine WL.neqF rfl rfl rfl (by first | rfl | omega | decide) ?_
  refine WL.nil (WX.then_normal (WC.cond_false rfl (WC.skip (WX.then_normal (WC.seq (WC.region (WL.move rfl rfl (?_))))))))
  refine WL.c_i64_u64 Tryd.underlying3 Tryd.underlying41 rfl rfl (WL.num rfl rfl (n_rem64 _ _ _ 20 (by decide)) rfl (?_))
  refine WL.c_u64_i64s (n := c0) Tryd.underlying41 Tryd.underlying3 rfl ⟨hc0.symm, by omega⟩ rfl ?_
  refine WL.add64 rfl rfl (by constructor <;> omega) rfl ?_
  rw [show (1 : Int) + c0 = (c : Int) from by omega]
  refine WL.move rfl rfl (WL.c_i64_u64 Tryd.underlying3 Tryd.underlying41 rfl rfl (WL.num rfl rfl (n_rem64 _ _ _ 1000 (by decide)) rfl (?_)))
  refine WL.c_u64_i64s (n := f0) Tryd.underlying41 Tryd.underlying3 rfl ⟨hf0.symm, by omega⟩ rfl ?_
  refine WL.add64 rfl rfl (by constructor <;> omega) rfl ?_
  rw [← hf]
  refine WL.assign rfl rfl (WL.assign rfl rfl (WL.nil (WX.then_normal (WC.seq (WC.seq (WC.region (WL.move rfl rfl (?_))))))))
  refine WL.assign rfl rfl (WL.nil (WX.then_normal (WC.block (?_))))
  refine WC.loop (σ := Nat) (fun i => [(0, vi (c : Int)), (1, vi f), (5, ptr R), (7, vi (f + i))])
    (fun i w' => i ≤ c ∧ Chg Nob w w' ∧ ∃ s : RA, RingI f i s ∧ RK (w.heap.size ≤ ·) w' R s) (fun i => c - i) 0 ⟨rfl, rfl, rfl, by simp, trivial⟩
    ⟨Nat.zero_le _, hw, _, hI0, hR⟩ ?_
  clear hw hR hI0
  rintro i w5 ⟨hi, hw, s, hI, hR⟩
  refine WC.seq (WC.seq (WC.region (WL.move rfl rfl (WL.move rfl rfl (WL.move rfl rfl (WL.add64 rfl rfl (by first | omega | (constructor <;> omega)) rfl (?_)))))))
  refine WL.lss? rfl rfl rfl (fun h42 => ?_) (fun h42 => ?_)
  ·
    refine WL.nil (WX.then_normal (WC.cond_true rfl (WC.skip (WX.then_normal (WC.seq (WC.block (WC.seq (?_))))))))
    refine WC.region (WL.move rfl rfl (WL.move rfl rfl (WL.move rfl rfl (?_))))
    refine WL.call eg_25 rfl rfl (lptr_calls (f + i) (by omega) _) ?_
    rintro v w3 ⟨rfl, k3⟩
    have zs_k3 := k3.size
    replace hw := hw.pure k3
    replace hR := hR.pure k3
    refine WL.bld rfl (bld_48_0_1 _ _ _ _ _) rfl (?_)
    obtain ⟨r1, r2, r3⟩ := hI.next ⟨by omega, by omega⟩
    have hlen := hI.len
    refine WL.call eg_24 rfl rfl (lWrite_calls hR (ubV (f + i) (f + i)) (ubV_wf (by omega)) (by omega)) ?_
    rintro v w4 ⟨rfl, hR4, k4⟩
    rw [r2, r3]
    replace hR4 := hR4.mono (A' := (w.heap.size ≤ ·)) (fun x hx => by have := hw.size; omega)
    have zs_k4 := k4.size
    replace hw := hw.chg k4 (by first | (intro x h1 h2; exact h2) | (intro x h0 h1 h2; exact hS x h1 h2) | (intro x h0 h1 h2; have h3 : _ = _ := h2; subst h3; exact hSR h1.1) | (intro x h1 h2; have h3 : _ = _ := h2; subst h3; assumption) | (intro x h1 h2; have h3 : _ = _ := h2; exfalso; omega) | (intro b h1 h2 h3; have h4 : _ = _ := h3; (try dsimp only at h2); exfalso; omega) | (intro h1; have h2 : _ = _ := h1; exfalso; omega) | (intro h1; have h2 : _ ≤ _ := h1; exfalso; omega) | (intros; exfalso; (try dsimp only at *); omega) | (intro b h1 h2 h3; exfalso; have h4 := h3.2; (try dsimp only at *); omega) | (intro h1; exfalso; have h4 := h1.2; (try dsimp only at *); omega) | (intro x h1 h2; exfalso; have h4 := h2.2; (try dsimp only at *); omega) | (intro x h1 h2; exact ⟨_, rfl, h2⟩) | (intro x h1 h2; have h4 := h2.1; have h5 := h2.2; exfalso; omega) | (intro x h1 h2; exact h2.1) | (intro x h1 h2; rcases h2.1 with h3 | h3; exact h3; exfalso; omega) | (intro x h1 h2; rcases h2 with h3 | h3; exact h3; exfalso; omega))
    refine WL.move rfl rfl (WL.extract rfl rfl rfl (WL.extract rfl rfl rfl (WL.assign rfl rfl (WL.assign rfl rfl (WL.nil (WX.then_normal (WC.seq (?_))))))))
    refine WC.region (WL.move rfl rfl (?_))
    refine WL.neqF rfl rfl rfl (rfl) ?_
    refine WL.move rfl rfl (WL.want rfl rfl rfl (WL.move rfl rfl (WL.want rfl rfl rfl (?_))))
    refine WL.neqF rfl rfl rfl (rfl) ?_
    refine WL.pickF rfl rfl rfl (WL.nil (WX.then_normal (WC.cond_false rfl (WC.skip (WX.block_normal (WX.then_normal (WC.region (?_))))))))
    refine WL.move rfl rfl (WL.add64 rfl rfl (by first | omega | (constructor <;> omega)) rfl (WL.assign rfl rfl (WL.nil (?_))))
    first
      | (have hz : f + (i : Int) < f + c := h42
         refine WX.loop_next (i + 1) ⟨rfl, rfl, rfl, ?_, trivial⟩ ⟨by omega, hw, _, r1, hR4⟩ (by show _ - _ < _ - _; omega)
         rw [show (f + ((i + 1 : Nat) : Int)) = f + i + 1 from by omega]
         rfl)
      | (have hz : (a : Int) = (f + t) % 8 := h92
         have e1 : (ringU f (t + 1) a).t = f + t := by rw [ringU, if_pos hz.symm]; rfl
         refine WX.loop_next (t + 1) ⟨rfl, rfl, rfl, rfl, rfl, rfl, ?_, ?_, trivial⟩ ⟨by omega, hq, hw, hR⟩ (by show _ - _ < _ - _; omega)
         ·
           rw [e1]; rfl
         ·
           rw [show (f + ((t + 1 : Nat) : Int)) = f + t + 1 from by omega]
           rfl)
      | (have hz : (f + t) % 8 = (a : Int) := h92
         have e1 : (ringU f (t + 1) a).t = f + t := by rw [ringU, if_pos hz]; rfl
         refine WX.loop_next (t + 1) ⟨rfl, rfl, rfl, rfl, rfl, rfl, ?_, ?_, trivial⟩ ⟨by omega, hq, hw, hR⟩ (by show _ - _ < _ - _; omega)
         ·
           rw [e1]; rfl
         ·
           rw [show (f + ((t + 1 : Nat) : Int)) = f + t + 1 from by omega]
           rfl)
      | (have hz : (f + t) % 8 ≠ (a : Int) := h92
         have e1 : ringU f (t + 1) a = ringU f t a := by rw [ringU, if_neg hz]
         refine WX.loop_next (t + 1) ⟨rfl, rfl, rfl, rfl, rfl, rfl, ?_, ?_, trivial⟩ ⟨by omega, hq, hw, hR⟩ (by show _ - _ < _ - _; omega)
         ·
           rw [e1]; rfl
         ·
           rw [show (f + ((t + 1 : Nat) : Int)) = f + t + 1 from by omega]
           rfl)
      | (have hz : (a : Int) < 8 := h78
         exact WX.loop_next (a + 1) ⟨rfl, rfl, rfl, rfl, rfl, rfl, trivial⟩ ⟨by omega, hq, hw, hR⟩ (by show _ - _ < _ - _; omega))
      | exact WX.loop_next (d + 1) ⟨rfl, rfl, rfl, rfl, trivial⟩ ⟨by omega, hw, hR⟩ (by show _ - _ < _ - _; omega)
  ·
    refine WL.nil (WX.then_normal (WC.cond_false rfl (WC.exit (WX.then_exit (WX.then_exit (WX.block_here (WX.then_normal (?_))))))))
    refine WC.seq (WC.seq (WC.region (WL.assign rfl rfl (WL.nil (WX.then_normal (WC.block (?_)))))))
    have hic : i = c := by omega
    subst hic
    replace hR := hR.old
    refine WC.loop (σ := Nat) (fun d => [(0, vi (i : Int)), (1, vi f), (5, ptr R), (10, vi (d : Int))])
      (fun d w' => d ≤ 3 ∧ Chg Nob w w' ∧ RK (fun x => w.heap.size ≤ x ∧ x < w5.heap.size) w' R s) (fun d => 3 - d) 0 ⟨rfl, rfl, rfl, rfl, trivial⟩
      ⟨Nat.zero_le _, hw, hR⟩ ?_
    clear hw hR
    rintro d w6 ⟨hd, hw, hR⟩
    refine WC.seq (WC.seq (WC.region (WL.move rfl rfl (?_))))
    refine WL.lss? rfl rfl rfl (fun h61 => ?_) (fun h61 => ?_)
    ·
      refine WL.nil (WX.then_normal (WC.cond_true rfl (WC.skip (WX.then_normal (WC.seq (WC.block (WC.seq (?_))))))))
      refine WC.region (WL.move rfl rfl (WL.move rfl rfl (?_)))
      obtain ⟨p1, p2, p3⟩ := hI.slots (d := d) (by omega)
      refine WL.call eg_26 rfl rfl (slots_calls hR (d : Int)) ?_
      rintro v w7 ⟨⟨ao, co, rfl, hq⟩, k7⟩
      obtain ⟨L, eL⟩ : ∃ L, L = slL s (d : Nat) := ⟨_, rfl⟩
      rw [p1]
      rw [← eL] at hq p2 p3 ⊢
      have zs_k7 := k7.size
      replace hw := hw.pure k7
      replace hR := hR.pure k7
      replace hq := hq.lt
      refine WL.move rfl rfl (WL.extract rfl rfl rfl (WL.extract rfl rfl rfl (WL.assign rfl rfl (WL.assign rfl rfl (WL.nil (WX.then_normal (WC.seq (?_))))))))
      refine WC.seq (WC.region (WL.move rfl rfl (?_)))
      refine WL.neqF rfl rfl rfl (rfl) ?_
      refine WL.move rfl rfl (WL.want rfl rfl rfl (WL.move rfl rfl (WL.want rfl rfl rfl (WL.len Tryd.underlying49 rfl rfl (WL.want rfl rfl rfl (?_))))))
      refine WL.neqF rfl rfl rfl (by first | rfl | omega | decide) ?_
      refine WL.pickF rfl rfl rfl (WL.nil (WX.then_normal (WC.cond_false rfl (WC.skip (WX.then_normal (WC.seq (WC.region (?_))))))))
      refine WL.assign rfl rfl (WL.nil (WX.then_normal (WC.block (?_))))
      obtain ⟨n7, en7⟩ : ∃ n7, n7 = w7.heap.size := ⟨_, rfl⟩
      refine WC.loop (σ := Nat) (fun a => [(0, vi (i : Int)), (1, vi f), (5, ptr R), (10, vi (d : Int)), (11, .slice ao L.length co), (13, vi (a : Int))])
        (fun a w' => a ≤ 8 ∧ Row (fun x => w6.heap.size ≤ x) w' 3 ei ao co L ∧ Chg Nob w w' ∧ RK (fun x => w.heap.size ≤ x ∧ x < w5.heap.size) w' R s) (fun a => 8 - a) 0 ⟨rfl, rfl, rfl, rfl, rfl, rfl, trivial⟩
        ⟨Nat.zero_le _, hq.mono (fun x hx => by omega), hw, hR⟩ ?_
      clear hq hw hR
      rintro a w8 ⟨ha, hq, hw, hR⟩
      refine WC.seq (WC.seq (WC.region (WL.move rfl rfl (?_))))
      refine WL.lss? rfl rfl rfl (fun h78 => ?_) (fun h78 => ?_)
      ·
        refine WL.nil (WX.then_normal (WC.cond_true rfl (WC.skip (WX.then_normal (WC.seq (WC.block (WC.seq (?_))))))))
        refine WC.region (WL.assign rfl rfl (WL.nil (WX.then_normal (WC.seq (WC.seq (WC.region (WL.move rfl rfl (?_))))))))
        refine WL.assign rfl rfl (WL.nil (WX.then_normal (WC.block (?_))))
        refine WC.loop (σ := Nat) (fun t => [(0, vi (i : Int)), (1, vi f), (5, ptr R), (10, vi (d : Int)), (11, .slice ao L.length co), (13, vi (a : Int)), (14, vi (ringU f t a).t), (15, vi (f + t))])
          (fun t w' => t ≤ i ∧ Row (fun x => w6.heap.size ≤ x) w' 3 ei ao co L ∧ Chg Nob w w' ∧ RK (fun x => w.heap.size ≤ x ∧ x < w5.heap.size) w' R s) (fun t => i - t) 0 ⟨rfl, rfl, rfl, rfl, rfl, rfl, rfl, by simp, trivial⟩
          ⟨Nat.zero_le _, hq, hw, hR⟩ ?_
        clear hq hw hR
        rintro t w9 ⟨ht, hq, hw, hR⟩
        refine WC.seq (WC.seq (WC.region (WL.move rfl rfl (WL.move rfl rfl (WL.move rfl rfl (WL.add64 rfl rfl (by first | omega | (constructor <;> omega)) rfl (?_)))))))
        refine WL.lss? rfl rfl rfl (fun h86 => ?_) (fun h86 => ?_)
        ·
          refine WL.nil (WX.then_normal (WC.cond_true rfl (WC.skip (WX.then_normal (WC.seq (WC.block (WC.seq (?_))))))))
          refine WC.region (WL.move rfl rfl (WL.rem64i rfl rfl (by constructor <;> omega) rfl (WL.move rfl rfl (?_))))
          refine WL.eql? rfl rfl rfl (fun h92 => ?_) (fun h92 => ?_)
          ·
            refine WL.nil (WX.then_normal (WC.cond_true rfl (WC.region (WL.move rfl rfl (WL.assign rfl rfl (WL.nil (WX.block_normal (?_))))))))
            refine WX.then_normal (WC.region (WL.move rfl rfl (WL.add64 rfl rfl (by first | omega | (constructor <;> omega)) rfl (WL.assign rfl rfl (WL.nil (?_))))))
            first
              | (have hz : f + (i : Int) < f + c := h42
                 refine WX.loop_next (i + 1) ⟨rfl, rfl, rfl, ?_, trivial⟩ ⟨by omega, hw, _, r1, hR4⟩ (by show _ - _ < _ - _; omega)
                 rw [show (f + ((i + 1 : Nat) : Int)) = f + i + 1 from by omega]
                 rfl)
              | (have hz : (a : Int) = (f + t) % 8 := h92
                 have e1 : (ringU f (t + 1) a).t = f + t := by rw [ringU, if_pos hz.symm]; rfl
                 refine WX.loop_next (t + 1) ⟨rfl, rfl, rfl, rfl, rfl, rfl, ?_, ?_, trivial⟩ ⟨by omega, hq, hw, hR⟩ (by show _ - _ < _ - _; omega)
                 ·
                   rw [e1]; rfl
                 ·
                   rw [show (f + ((t + 1 : Nat) : Int)) = f + t + 1 from by omega]
                   rfl)
              | (have hz : (f + t) % 8 = (a : Int) := h92
                 have e1 : (ringU f (t + 1) a).t = f + t := by rw [ringU, if_pos hz]; rfl
                 refine WX.loop_next (t + 1) ⟨rfl, rfl, rfl, rfl, rfl, rfl, ?_, ?_, trivial⟩ ⟨by omega, hq, hw, hR⟩ (by show _ - _ < _ - _; omega)
                 ·
                   rw [e1]; rfl
                 ·
                   rw [show (f + ((t + 1 : Nat) : Int)) = f + t + 1 from by omega]
                   rfl)
              | (have hz : (f + t) % 8 ≠ (a : Int) := h92
                 have e1 : ringU f (t + 1) a = ringU f t a := by rw [ringU, if_neg hz]
                 refine WX.loop_next (t + 1) ⟨rfl, rfl, rfl, rfl, rfl, rfl, ?_, ?_, trivial⟩ ⟨by omega, hq, hw, hR⟩ (by show _ - _ < _ - _; omega)
                 ·
                   rw [e1]; rfl
                 ·
                   rw [show (f + ((t + 1 : Nat) : Int)) = f + t + 1 from by omega]
                   rfl)
              | (have hz : (a : Int) < 8 := h78
                 exact WX.loop_next (a + 1) ⟨rfl, rfl, rfl, rfl, rfl, rfl, trivial⟩ ⟨by omega, hq, hw, hR⟩ (by show _ - _ < _ - _; omega))
              | exact WX.loop_next (d + 1) ⟨rfl, rfl, rfl, rfl, trivial⟩ ⟨by omega, hw, hR⟩ (by show _ - _ < _ - _; omega)
          ·
            refine WL.nil (WX.then_normal (WC.cond_false rfl (WC.skip (WX.block_normal (WX.then_normal (WC.region (WL.move rfl rfl (?_))))))))
            refine WL.add64 rfl rfl (by first | omega | (constructor <;> omega)) rfl (WL.assign rfl rfl (WL.nil (?_)))
            first
              | (have hz : f + (i : Int) < f + c := h42
                 refine WX.loop_next (i + 1) ⟨rfl, rfl, rfl, ?_, trivial⟩ ⟨by omega, hw, _, r1, hR4⟩ (by show _ - _ < _ - _; omega)
                 rw [show (f + ((i + 1 : Nat) : Int)) = f + i + 1 from by omega]
                 rfl)
              | (have hz : (a : Int) = (f + t) % 8 := h92
                 have e1 : (ringU f (t + 1) a).t = f + t := by rw [ringU, if_pos hz.symm]; rfl
                 refine WX.loop_next (t + 1) ⟨rfl, rfl, rfl, rfl, rfl, rfl, ?_, ?_, trivial⟩ ⟨by omega, hq, hw, hR⟩ (by show _ - _ < _ - _; omega)
                 ·
                   rw [e1]; rfl
                 ·
                   rw [show (f + ((t + 1 : Nat) : Int)) = f + t + 1 from by omega]
                   rfl)
              | (have hz : (f + t) % 8 = (a : Int) := h92
                 have e1 : (ringU f (t + 1) a).t = f + t := by rw [ringU, if_pos hz]; rfl
                 refine WX.loop_next (t + 1) ⟨rfl, rfl, rfl, rfl, rfl, rfl, ?_, ?_, trivial⟩ ⟨by omega, hq, hw, hR⟩ (by show _ - _ < _ - _; omega)
                 ·
                   rw [e1]; rfl
                 ·
                   rw [show (f + ((t + 1 : Nat) : Int)) = f + t + 1 from by omega]
                   rfl)
              | (have hz : (f + t) % 8 ≠ (a : Int) := h92
                 have e1 : ringU f (t + 1) a = ringU f t a := by rw [ringU, if_neg hz]
                 refine WX.loop_next (t + 1) ⟨rfl, rfl, rfl, rfl, rfl, rfl, ?_, ?_, trivial⟩ ⟨by omega, hq, hw, hR⟩ (by show _ - _ < _ - _; omega)
                 ·
                   rw [e1]; rfl
                 ·
                   rw [show (f + ((t + 1 : Nat) : Int)) = f + t + 1 from by omega]
                   rfl)
              | (have hz : (a : Int) < 8 := h78
                 exact WX.loop_next (a + 1) ⟨rfl, rfl, rfl, rfl, rfl, rfl, trivial⟩ ⟨by omega, hq, hw, hR⟩ (by show _ - _ < _ - _; omega))
              | exact WX.loop_next (d + 1) ⟨rfl, rfl, rfl, rfl, trivial⟩ ⟨by omega, hw, hR⟩ (by show _ - _ < _ - _; omega)
        ·
          refine WL.nil (WX.then_normal (WC.cond_false rfl (WC.exit (WX.then_exit (WX.then_exit (WX.block_here (WX.then_normal (?_))))))))
          refine WC.seq (WC.region (WL.move rfl rfl (WL.move rfl rfl (?_))))
          have hti : t = i := by omega
          subst hti
          have hx := p3 a (by omega)
          refine WL.indexT Tryd.underlying49 Tryd.sizeOf3 hq.rsl rfl rfl ⟨hx, rfl⟩ rfl ?_
          intro b_1 o_1 hc_1
          refine WL.load Tryd.isAgg3 rfl (hc_1 0 _ rfl) rfl (WL.move rfl rfl (?_))
          refine WL.neqF rfl rfl rfl (rfl) ?_
          refine WL.nil (WX.then_normal (WC.cond_false rfl (WC.skip (WX.block_normal (WX.then_normal (WC.region (WL.move rfl rfl (?_))))))))
          refine WL.add64 rfl rfl (by first | omega | (constructor <;> omega)) rfl (WL.assign rfl rfl (WL.nil (?_)))
          first
            | (have hz : f + (i : Int) < f + c := h42
               refine WX.loop_next (i + 1) ⟨rfl, rfl, rfl, ?_, trivial⟩ ⟨by omega, hw, _, r1, hR4⟩ (by show _ - _ < _ - _; omega)
               rw [show (f + ((i + 1 : Nat) : Int)) = f + i + 1 from by omega]
               rfl)
            | (have hz : (a : Int) = (f + t) % 8 := h92
               have e1 : (ringU f (t + 1) a).t = f + t := by rw [ringU, if_pos hz.symm]; rfl
               refine WX.loop_next (t + 1) ⟨rfl, rfl, rfl, rfl, rfl, rfl, ?_, ?_, trivial⟩ ⟨by omega, hq, hw, hR⟩ (by show _ - _ < _ - _; omega)
               ·
                 rw [e1]; rfl
               ·
                 rw [show (f + ((t + 1 : Nat) : Int)) = f + t + 1 from by omega]
                 rfl)
            | (have hz : (f + t) % 8 = (a : Int) := h92
               have e1 : (ringU f (t + 1) a).t = f + t := by rw [ringU, if_pos hz]; rfl
               refine WX.loop_next (t + 1) ⟨rfl, rfl, rfl, rfl, rfl, rfl, ?_, ?_, trivial⟩ ⟨by omega, hq, hw, hR⟩ (by show _ - _ < _ - _; omega)
               ·
                 rw [e1]; rfl
               ·
                 rw [show (f + ((t + 1 : Nat) : Int)) = f + t + 1 from by omega]
                 rfl)
            | (have hz : (f + t) % 8 ≠ (a : Int) := h92
               have e1 : ringU f (t + 1) a = ringU f t a := by rw [ringU, if_neg hz]
               refine WX.loop_next (t + 1) ⟨rfl, rfl, rfl, rfl, rfl, rfl, ?_, ?_, trivial⟩ ⟨by omega, hq, hw, hR⟩ (by show _ - _ < _ - _; omega)
               ·
                 rw [e1]; rfl
               ·
                 rw [show (f + ((t + 1 : Nat) : Int)) = f + t + 1 from by omega]
                 rfl)
            | (have hz : (a : Int) < 8 := h78
               exact WX.loop_next (a + 1) ⟨rfl, rfl, rfl, rfl, rfl, rfl, trivial⟩ ⟨by omega, hq, hw, hR⟩ (by show _ - _ < _ - _; omega))
            | exact WX.loop_next (d + 1) ⟨rfl, rfl, rfl, rfl, trivial⟩ ⟨by omega, hw, hR⟩ (by show _ - _ < _ - _; omega)
      ·
        refine WL.nil (WX.then_normal (WC.cond_false rfl (WC.exit (WX.then_exit (WX.then_exit (WX.block_here (WX.block_normal (?_))))))))
        refine WX.then_normal (WC.region (WL.move rfl rfl (WL.add64 rfl rfl (by first | omega | (constructor <;> omega)) rfl (WL.assign rfl rfl (WL.nil (?_))))))
        first
          | (have hz : f + (i : Int) < f + c := h42
             refine WX.loop_next (i + 1) ⟨rfl, rfl, rfl, ?_, trivial⟩ ⟨by omega, hw, _, r1, hR4⟩ (by show _ - _ < _ - _; omega)
             rw [show (f + ((i + 1 : Nat) : Int)) = f + i + 1 from by omega]
             rfl)
          | (have hz : (a : Int) = (f + t) % 8 := h92
             have e1 : (ringU f (t + 1) a).t = f + t := by rw [ringU, if_pos hz.symm]; rfl
             refine WX.loop_next (t + 1) ⟨rfl, rfl, rfl, rfl, rfl, rfl, ?_, ?_, trivial⟩ ⟨by omega, hq, hw, hR⟩ (by show _ - _ < _ - _; omega)
             ·
               rw [e1]; rfl
             ·
               rw [show (f + ((t + 1 : Nat) : Int)) = f + t + 1 from by omega]
               rfl)
          | (have hz : (f + t) % 8 = (a : Int) := h92
             have e1 : (ringU f (t + 1) a).t = f + t := by rw [ringU, if_pos hz]; rfl
             refine WX.loop_next (t + 1) ⟨rfl, rfl, rfl, rfl, rfl, rfl, ?_, ?_, trivial⟩ ⟨by omega, hq, hw, hR⟩ (by show _ - _ < _ - _; omega)
             ·
               rw [e1]; rfl
             ·
               rw [show (f + ((t + 1 : Nat) : Int)) = f + t + 1 from by omega]
               rfl)
          | (have hz : (f + t) % 8 ≠ (a : Int) := h92
             have e1 : ringU f (t + 1) a = ringU f t a := by rw [ringU, if_neg hz]
             refine WX.loop_next (t + 1) ⟨rfl, rfl, rfl, rfl, rfl, rfl, ?_, ?_, trivial⟩ ⟨by omega, hq, hw, hR⟩ (by show _ - _ < _ - _; omega)
             ·
               rw [e1]; rfl
             ·
               rw [show (f + ((t + 1 : Nat) : Int)) = f + t + 1 from by omega]
               rfl)
          | (have hz : (a : Int) < 8 := h78
             exact WX.loop_next (a + 1) ⟨rfl, rfl, rfl, rfl, rfl, rfl, trivial⟩ ⟨by omega, hq, hw, hR⟩ (by show _ - _ < _ - _; omega))
          | exact WX.loop_next (d + 1) ⟨rfl, rfl, rfl, rfl, trivial⟩ ⟨by omega, hw, hR⟩ (by show _ - _ < _ - _; omega)
    ·
      refine WL.nil (WX.then_normal (WC.cond_false rfl (WC.exit (WX.then_exit (WX.then_exit (WX.block_here (WX.then_normal (?_))))))))
      refine WC.seq (WC.region (WL.move rfl rfl (?_)))
      obtain ⟨n1, n2⟩ := RingI.newest (i := c0) (hc ▸ hI) (by omega)
      refine WL.call eg_27 rfl rfl (lNewest_calls hR) ?_
      rintro v w10 ⟨rfl, k10⟩
      rw [n1, n2]
      have zs_k10 := k10.size
      replace hw := hw.pure k10
      replace hR := hR.pure k10
      have zw10 := hw.size
      replace hR := hR.old
      refine WL.move rfl rfl (WL.extract rfl rfl rfl (WL.extract rfl rfl rfl (?_)))
      refine WL.alloc Tryd.zeroValue48 rfl ?_
      intro g_1 w_1 hge_1 hlt_1 hb_1 k_1
      have zs_k_1 := k_1.size
      replace hw := hw.pure k_1
      replace hR := hR.pure k_1
      refine WL.stores Tryd.sizeOf48 hb_1 rfl rfl (by first | (simp; done) | (simp; omega) | rfl) (by first | exact Enc.one _ _ | (intro u hu; obtain ⟨x, _, rfl⟩ := List.mem_map.1 hu; rfl) | (simp [Value.oneCell']; done) | (simp [Value.oneCell', Value.cells]; done)) (by first | (simp; done) | (simp; omega) | (simp [Value.cells]; done) | (simp [Value.cells]; omega) | exact Nat.le_of_ble_eq_true rfl) rfl ?_
      intro w_2 hs_2 hn_2 k_2
      have zs_k_2 := k_2.size
      replace hw := hw.chg k_2 (by first | (intro x h1 h2; exact h2) | (intro x h0 h1 h2; exact hS x h1 h2) | (intro x h0 h1 h2; have h3 : _ = _ := h2; subst h3; exact hSR h1.1) | (intro x h1 h2; have h3 : _ = _ := h2; subst h3; assumption) | (intro x h1 h2; have h3 : _ = _ := h2; exfalso; omega) | (intro b h1 h2 h3; have h4 : _ = _ := h3; (try dsimp only at h2); exfalso; omega) | (intro h1; have h2 : _ = _ := h1; exfalso; omega) | (intro h1; have h2 : _ ≤ _ := h1; exfalso; omega) | (intros; exfalso; (try dsimp only at *); omega) | (intro b h1 h2 h3; exfalso; have h4 := h3.2; (try dsimp only at *); omega) | (intro h1; exfalso; have h4 := h1.2; (try dsimp only at *); omega) | (intro x h1 h2; exfalso; have h4 := h2.2; (try dsimp only at *); omega) | (intro x h1 h2; exact ⟨_, rfl, h2⟩) | (intro x h1 h2; have h4 := h2.1; have h5 := h2.2; exfalso; omega) | (intro x h1 h2; exact h2.1) | (intro x h1 h2; rcases h2.1 with h3 | h3; exact h3; exfalso; omega) | (intro x h1 h2; rcases h2 with h3 | h3; exact h3; exfalso; omega))
      replace hR := hR.chg k_2 (by first | (intro x h1 h2; exact h2) | (intro x h0 h1 h2; exact hS x h1 h2) | (intro x h0 h1 h2; have h3 : _ = _ := h2; subst h3; exact hSR h1.1) | (intro x h1 h2; have h3 : _ = _ := h2; subst h3; assumption) | (intro x h1 h2; have h3 : _ = _ := h2; exfalso; omega) | (intro b h1 h2 h3; have h4 : _ = _ := h3; (try dsimp only at h2); exfalso; omega) | (intro h1; have h2 : _ = _ := h1; exfalso; omega) | (intro h1; have h2 : _ ≤ _ := h1; exfalso; omega) | (intros; exfalso; (try dsimp only at *); omega) | (intro b h1 h2 h3; exfalso; have h4 := h3.2; (try dsimp only at *); omega) | (intro h1; exfalso; have h4 := h1.2; (try dsimp only at *); omega) | (intro x h1 h2; exfalso; have h4 := h2.2; (try dsimp only at *); omega) | (intro x h1 h2; exact ⟨_, rfl, h2⟩) | (intro x h1 h2; have h4 := h2.1; have h5 := h2.2; exfalso; omega) | (intro x h1 h2; exact h2.1) | (intro x h1 h2; rcases h2.1 with h3 | h3; exact h3; exfalso; omega) | (intro x h1 h2; rcases h2 with h3 | h3; exact h3; exfalso; omega))
      replace hb_1 := hn_2
      refine WL.assign rfl rfl (WL.nil (WX.then_normal (WC.seq (WC.region (WL.move rfl rfl (?_))))))
      have hb16 := Blk.eqc (cs' := eub.f (ubV (f + c0) (f + c0))) hb_1 rfl
      have hs3 : slE s 3 = 1 := by
        rw [slE, if_neg]
        rintro ⟨_, _, h9⟩
        have := hI.dn
        omega
      refine WL.call eg_26 rfl rfl (slots_calls hR 3) ?_
      rintro v w11 ⟨⟨a11, c11, rfl, hq11⟩, k11⟩
      rw [hs3]
      have zs_k11 := k11.size
      replace hw := hw.pure k11
      replace hR := hR.pure k11
      replace hb16 := hb16.pure k11
      refine WL.move rfl rfl (WL.extract rfl rfl rfl (WL.extract rfl rfl rfl (WL.assign rfl rfl (WL.assign rfl rfl (WL.nil (WX.then_normal (WC.seq (?_))))))))
      refine WC.draw (Nob) [0, 1, 2, 3, 4, 5, 6, 7, 8, 9, 10, 11, 12, 13, 14, 15] [16, 17, 18, 19, 20, 21, 22, 23] mixed rfl rfl (fun wd_3 kd_3 zd_3 => ?_)
      have zs_kd_3 := kd_3.size
      replace hw := hw.pure kd_3
      replace hR := hR.pure kd_3
      replace hb16 := hb16.pure kd_3
      apply DQ.step (E' := [(6, _)])
      case ho => rfl
      case hs => exact ⟨rfl, trivial⟩
      case hk => rfl
      case h1 =>
        intro wq_5 kq_5
        refine WL.move rfl rfl (?_)
        refine WL.nil ?_
        exact WX.one ⟨rfl, by first | exact Chg.refl _ _ | assumption⟩
      apply DQ.step (E' := [(110, _)])
      case ho => rfl
      case hs => exact ⟨rfl, trivial⟩
      case hk => rfl
      case h1 =>
        intro wq_6 kq_6
        refine WL.eqlT rfl rfl rfl (rfl) ?_
        refine WL.nil ?_
        exact WX.one ⟨rfl, by first | exact Chg.refl _ _ | assumption⟩
      apply DQ.step (E' := [(111, _)])
      case ho => rfl
      case hs => exact ⟨rfl, trivial⟩
      case hk => rfl
      case h1 =>
        intro wq_7 kq_7
        refine WL.move rfl rfl (?_)
        refine WL.nil ?_
        exact WX.one ⟨rfl, by first | exact Chg.refl _ _ | assumption⟩
      apply DQ.step (E' := [(16, _), (112, _)])
      case ho => rfl
      case hs => exact ⟨rfl, rfl, trivial⟩
      case hk => rfl
      case h1 =>
        intro wq_8 kq_8
        refine WL.want rfl rfl rfl (WL.fieldAddr (fld_48_0) rfl rfl (?_))
        refine WL.nil ?_
        exact WX.one ⟨rfl, by first | exact Chg.refl _ _ | assumption⟩
      apply DQ.step (E' := [(113, _), (112, _)])
      case ho => rfl
      case hs => exact ⟨rfl, rfl, trivial⟩
      case hk => rfl
      case h1 =>
        intro wq_9 kq_9
        have zs_kq_9 := kq_9.size
        replace hw := hw.pure kq_9
        replace hR := hR.pure kq_9
        replace hb16 := hb16.pure kq_9
        refine WL.want rfl rfl rfl (WL.loadB Tryd.isAgg3 hb16 rfl rfl rfl (?_))
        refine WL.nil ?_
        exact WX.one ⟨rfl, by first | exact Chg.refl _ _ | assumption⟩
      apply DQ.step (E' := [(1, _), (112, _)])
      case ho => rfl
      case hs => exact ⟨rfl, rfl, trivial⟩
      case hk => rfl
      case h1 =>
        intro wq_10 kq_10
        refine WL.want rfl rfl rfl (WL.move rfl rfl (?_))
        refine WL.nil ?_
        exact WX.one ⟨rfl, by first | exact Chg.refl _ _ | assumption⟩
      apply DQ.step (E' := [(0, _), (112, _)])
      case ho => rfl
      case hs => exact ⟨rfl, rfl, trivial⟩
      case hk => rfl
      case h1 =>
        intro wq_11 kq_11
        refine WL.want rfl rfl rfl (WL.move rfl rfl (?_))
        refine WL.nil ?_
        exact WX.one ⟨rfl, by first | exact Chg.refl _ _ | assumption⟩
      apply DQ.step (E' := [(115, _), (116, _), (112, _)])
      case ho => rfl
      case hs => exact ⟨rfl, rfl, rfl, trivial⟩
      case hk => rfl
      case h1 =>
        intro wq_12 kq_12
        refine WL.want rfl rfl rfl (WL.add64 rfl rfl (by first | omega | (constructor <;> omega)) rfl (?_))
        refine WL.nil ?_
        exact WX.one ⟨rfl, by first | exact Chg.refl _ _ | assumption⟩
      apply DQ.step (E' := [(117, _), (112, _)])
      case ho => rfl
      case hs => exact ⟨rfl, rfl, trivial⟩
      case hk => rfl
      case h1 =>
        intro wq_13 kq_13
        refine WL.want rfl rfl rfl (WL.sub64 rfl rfl (by first | omega | (constructor <;> omega)) rfl (?_))
        refine WL.nil ?_
        exact WX.one ⟨rfl, by first | exact Chg.refl _ _ | assumption⟩
      apply DQ.step (E' := [(114, _), (118, _), (112, _)])
      case ho => rfl
      case hs => exact ⟨rfl, rfl, rfl, trivial⟩
      case hk => rfl
      case h1 =>
        intro wq_14 kq_14
        refine WL.want rfl rfl rfl (?_)
        refine WL.eqlT rfl rfl rfl ((by show (f + c0 : Int) = _; omega)) ?_
        refine WL.nil ?_
        exact WX.one ⟨rfl, by first | exact Chg.refl _ _ | assumption⟩
      apply DQ.step (E' := [(112, _), (119, _)])
      case ho => rfl
      case hs => exact ⟨rfl, rfl, trivial⟩
      case hk => rfl
      case h1 =>
        intro wq_15 kq_15
        refine WL.pickT rfl rfl rfl (?_)
        refine WL.nil ?_
        exact WX.one ⟨rfl, by first | exact Chg.refl _ _ | assumption⟩
      apply DQ.step (E' := [(120, _)])
      case ho => rfl
      case hs => exact ⟨rfl, trivial⟩
      case hk => rfl
      case h1 =>
        intro wq_16 kq_16
        refine WL.move rfl rfl (?_)
        refine WL.nil ?_
        exact WX.one ⟨rfl, by first | exact Chg.refl _ _ | assumption⟩
      apply DQ.step (E' := [(16, _), (121, _)])
      case ho => rfl
      case hs => exact ⟨rfl, rfl, trivial⟩
      case hk => rfl
      case h1 =>
        intro wq_17 kq_17
        refine WL.want rfl rfl rfl (WL.fieldAddr (fld_48_1) rfl rfl (?_))
        refine WL.nil ?_
        exact WX.one ⟨rfl, by first | exact Chg.refl _ _ | assumption⟩
      apply DQ.step (E' := [(122, _), (121, _)])
      case ho => rfl
      case hs => exact ⟨rfl, rfl, trivial⟩
      case hk => rfl
      case h1 =>
        intro wq_18 kq_18
        have zs_kq_18 := kq_18.size
        replace hw := hw.pure kq_18
        replace hR := hR.pure kq_18
        replace hb16 := hb16.pure kq_18
        refine WL.want rfl rfl rfl (?_)
        refine WL.loads (ept.f (ptrV (f + c0))) Tryd.isAgg45 Tryd.sizeOf45 rfl (fun j v hj => by rw [Nat.add_comm]; exact hb16.cell hj) rfl rfl ?_
        refine WL.nil ?_
        exact WX.one ⟨rfl, by first | exact Chg.refl _ _ | assumption⟩
      apply DQ.step (E' := [(16, _), (121, _)])
      case ho => rfl
      case hs => exact ⟨rfl, rfl, trivial⟩
      case hk => rfl
      case h1 =>
        intro wq_19 kq_19
        refine WL.want rfl rfl rfl (WL.fieldAddr (fld_48_0) rfl rfl (?_))
        refine WL.nil ?_
        exact WX.one ⟨rfl, by first | exact Chg.refl _ _ | assumption⟩
      apply DQ.step (E' := [(124, _), (121, _)])
      case ho => rfl
      case hs => exact ⟨rfl, rfl, trivial⟩
      case hk => rfl
      case h1 =>
        intro wq_20 kq_20
        have zs_kq_20 := kq_20.size
        replace hw := hw.pure kq_20
        replace hR := hR.pure kq_20
        replace hb16 := hb16.pure kq_20
        refine WL.want rfl rfl rfl (WL.loadB Tryd.isAgg3 hb16 rfl rfl rfl (?_))
        refine WL.nil ?_
        exact WX.one ⟨rfl, by first | exact Chg.refl _ _ | assumption⟩
      refine DQ.done (fun hd_4 => ?_)
      refine DL.step [(125, _), (121, _)] rfl ⟨rfl, rfl, trivial⟩ rfl (fun wq_21 kq_21 => ?_)
      have zs_kq_21 := kq_21.size
      replace hw := hw.pure kq_21
      replace hR := hR.pure kq_21
      replace hb16 := hb16.pure kq_21
      replace hd_4 := hd_4.pure kq_21
      refine WL.want rfl rfl rfl (?_)
      refine WL.call eg_25 rfl rfl (lptr_calls (f + c0) (by omega) _) ?_
      rintro v w12 ⟨rfl, k12⟩
      have zs_k12 := k12.size
      replace hw := hw.pure k12
      replace hR := hR.pure k12
      replace hb16 := hb16.pure k12
      replace hd_4 := hd_4.pure k12
      refine WL.nil ?_
      refine WX.one ⟨hd_4, ?_⟩
      refine DL.step [(123, _), (126, _), (121, _)] rfl ⟨rfl, rfl, rfl, trivial⟩ rfl (fun wq_22 kq_22 => ?_)
      have zs_kq_22 := kq_22.size
      replace hw := hw.pure kq_22
      replace hR := hR.pure kq_22
      replace hb16 := hb16.pure kq_22
      replace hd_4 := hd_4.pure kq_22
      refine WL.want rfl rfl rfl (?_)
      refine WL.aeql eqg_ptr (eq_ptr (ptrV (f + c0)) (ptrV (f + c0))) rfl rfl rfl ?_
      rw [decide_eq_true (rfl : ptrV (f + c0) = ptrV (f + c0))]
      refine WL.nil ?_
      refine WX.one ⟨hd_4, ?_⟩
      refine DL.step [(121, _), (127, _)] rfl ⟨rfl, rfl, trivial⟩ rfl (fun wq_23 kq_23 => ?_)
      have zs_kq_23 := kq_23.size
      replace hw := hw.pure kq_23
      replace hR := hR.pure kq_23
      replace hb16 := hb16.pure kq_23
      replace hd_4 := hd_4.pure kq_23
      refine WL.pickT rfl rfl rfl (?_)
      refine WL.nil ?_
      refine WX.one ⟨hd_4, ?_⟩
      refine DL.step [(128, _)] rfl ⟨rfl, trivial⟩ rfl (fun wq_24 kq_24 => ?_)
      have zs_kq_24 := kq_24.size
      replace hw := hw.pure kq_24
      replace hR := hR.pure kq_24
      replace hb16 := hb16.pure kq_24
      replace hd_4 := hd_4.pure kq_24
      refine WL.move rfl rfl (?_)
      refine WL.nil ?_
      refine WX.one ⟨hd_4, ?_⟩
      refine DL.step [(18, _), (129, _)] rfl ⟨rfl, rfl, trivial⟩ rfl (fun wq_25 kq_25 => ?_)
      have zs_kq_25 := kq_25.size
      replace hw := hw.pure kq_25
      replace hR := hR.pure kq_25
      replace hb16 := hb16.pure kq_25
      replace hd_4 := hd_4.pure kq_25
      refine WL.want rfl rfl rfl (WL.move rfl rfl (?_))
      refine WL.nil ?_
      refine WX.one ⟨hd_4, ?_⟩
      refine DL.step [(130, _), (129, _)] rfl ⟨rfl, rfl, trivial⟩ rfl (fun wq_26 kq_26 => ?_)
      have zs_kq_26 := kq_26.size
      replace hw := hw.pure kq_26
      replace hR := hR.pure kq_26
      replace hb16 := hb16.pure kq_26
      replace hd_4 := hd_4.pure kq_26
      refine WL.want rfl rfl rfl (?_)
      refine WL.eqlT rfl rfl rfl (rfl) ?_
      refine WL.nil ?_
      refine WX.one ⟨hd_4, ?_⟩
      refine DL.step [(129, _), (131, _)] rfl ⟨rfl, rfl, trivial⟩ rfl (fun wq_27 kq_27 => ?_)
      have zs_kq_27 := kq_27.size
      replace hw := hw.pure kq_27
      replace hR := hR.pure kq_27
      replace hb16 := hb16.pure kq_27
      replace hd_4 := hd_4.pure kq_27
      refine WL.pickT rfl rfl rfl (?_)
      refine WL.nil ?_
      refine WX.one ⟨hd_4, ?_⟩
      refine DL.step [(132, _)] rfl ⟨rfl, trivial⟩ rfl (fun wq_28 kq_28 => ?_)
      have zs_kq_28 := kq_28.size
      replace hw := hw.pure kq_28
      replace hR := hR.pure kq_28
      replace hb16 := hb16.pure kq_28
      replace hd_4 := hd_4.pure kq_28
      refine WL.assign rfl rfl (?_)
      refine WL.nil ?_
      refine WX.one ⟨hd_4, ?_⟩
      refine DL.done (fun we_29 ke_29 => ?_)
      have zs_ke_29 := ke_29.size
      replace hw := hw.pure ke_29
      replace hR := hR.pure ke_29
      replace hb16 := hb16.pure ke_29
      replace hd_4 := hd_4.pure ke_29
      refine WX.then_normal (WC.ret (?_))
      refine WX.ret1 (.inl rfl) Tryd.results5 rfl ?_
      first
        | exact ⟨_, rfl, rfl, hw⟩
        | (refine ⟨_, rfl, ?_, hw⟩
           exact congrArg Value.bool (decide_eq_true rfl))
end Go.Proofs.YtcdbkfaebgficaaDoor
