import Derived.Test.YtfkaioldfmapjaaPe
namespace Go.Proofs.Ytfkaioldfmapjaa
open Go.RowKit Go.HL

theorem encAll_append (l m : List Item) : encAll (l ++ m) = encAll l ++ encAll m := by simp [encAll]
theorem checkE_append {l m : List Item} (hl : checkE l = 0) (hm : checkE m = 0) (h : l.length + m.length ≤ 2000) : checkE (l ++ m) = 0 := by
  obtain ⟨h1, h2⟩ := checkE_ok hl
  obtain ⟨h3, h4⟩ := checkE_ok hm
  have h5 : ∀ i ∈ l ++ m, longI i = false ∧ okI i = true := fun i hi => (List.mem_append.1 hi).elim (h2 i) (h4 i)
  unfold checkE
  rw [if_neg, if_pos (List.all_eq_true.2 fun i hi => (h5 i hi).2)]
  rintro (h6 | h6)
  · simp at h6; omega
  · obtain ⟨i, hi, h7⟩ := List.any_eq_true.1 h6
    rw [(h5 i hi).1] at h7
    cases h7
theorem ba_append (a b : List UInt8) : (⟨(a ++ b).toArray⟩ : ByteArray) = ⟨a.toArray⟩ ++ ⟨b.toArray⟩ := by
  apply ByteArray.ext
  simp

theorem packJoins_calls {w : World} {al am : Option Addr} {cl cm : Nat} {l m : List Item} (hl : RSl (· < w.heap.size) w eit al cl l) (hm : RSl (· < w.heap.size) w eit am cm m) (bl : l.length ≤ 4398046511104) (bm : m.length ≤ 4398046511104) :
    Calls Try.prog 3 [.slice al l.length cl, .slice am m.length cm].toArray w (Ret fun v w' => v = .bool true ∧ Chg Nob w w') := by
  have hw := Chg.refl Nob w
  refine Calls.of_WC Try.func3 rfl Try.ntmps3 (by simp) ?_
  refine WC.seq (WC.region (WL.assign rfl rfl (WL.nil (WX.then_normal (WC.seq (WC.seq (WC.region (?_))))))))
  refine WL.call eg_13 rfl rfl (known5_calls _) ?_
  rintro v w0 ⟨rfl, k0⟩
  have zs_k0 := k0.size
  replace hl := hl.pure k0
  replace hm := hm.pure k0
  replace hw := hw.pure k0
  refine WL.not rfl rfl (WL.nil (WX.then_normal (WC.cond_false rfl (WC.skip (WX.then_normal (WC.seq (WC.region (?_))))))))
  refine WL.move rfl rfl (?_)
  refine WL.call eg_14 rfl rfl (encode_calls hl (by omega)) ?_
  rintro v w1 ⟨a1, c1, rfl, hb1, k1⟩
  have zs_k1 := k1.size
  replace hl := hl.pure k1
  replace hm := hm.pure k1
  replace hw := hw.pure k1
  replace hb1 := hb1.lt
  refine WL.move rfl rfl (WL.extract rfl rfl rfl (WL.extract rfl rfl rfl (WL.assign rfl rfl (WL.assign rfl rfl (WL.nil (WX.then_normal (WC.seq (?_))))))))
  refine WC.region (WL.move rfl rfl (?_))
  refine WL.call eg_14 rfl rfl (encode_calls hm (by omega)) ?_
  rintro v w2 ⟨a2, c2, rfl, hb2, k2⟩
  have zs_k2 := k2.size
  replace hl := hl.pure k2
  replace hm := hm.pure k2
  replace hw := hw.pure k2
  replace hb1 := hb1.pure k2
  replace hb2 := hb2.lt
  refine WL.move rfl rfl (WL.extract rfl rfl rfl (WL.extract rfl rfl rfl (WL.assign rfl rfl (WL.assign rfl rfl (WL.nil (WX.then_normal (WC.seq (?_))))))))
  refine WC.seq (WC.region (WL.move rfl rfl (?_)))
  refine WL.neq? rfl rfl rfl (fun h24 => ?_) (fun h24 => ?_)
  ·
    refine WL.move rfl rfl (WL.pass rfl rfl rfl rfl (WL.pass rfl rfl rfl rfl (WL.pickT rfl rfl rfl (WL.move rfl rfl (WL.pass rfl rfl rfl rfl (WL.pass rfl rfl rfl rfl (WL.pass rfl rfl rfl rfl (?_))))))))
    refine WL.pass rfl rfl rfl rfl (WL.pass rfl rfl rfl rfl (WL.pass rfl rfl rfl rfl (WL.pickT rfl rfl rfl (WL.nil (WX.then_normal (WC.cond_true rfl (WC.seq (?_))))))))
    refine WC.region (WL.assign rfl rfl (WL.nil (WX.then_normal (WC.ret (WX.then_ret (?_))))))
    refine WX.ret1 (.inl rfl) Try.results3 rfl ?_
    refine ⟨_, rfl, ?_, hw⟩
    first
      | rfl
      | (have hc := checkE_append h24 h27 (by omega)
         rw [List.nil_append, if_pos hc, encAll_append, ba_append]
         simp)
      | (have hc := checkE_append h24 h27 (by omega)
         exact absurd hc h47)
  ·
    refine WL.move rfl rfl (WL.want rfl rfl rfl (WL.move rfl rfl (WL.want rfl rfl rfl (?_))))
    refine WL.neq? rfl rfl rfl (fun h27 => ?_) (fun h27 => ?_)
    ·
      refine WL.pickF rfl rfl rfl (WL.move rfl rfl (WL.pass rfl rfl rfl rfl (WL.pass rfl rfl rfl rfl (WL.pass rfl rfl rfl rfl (WL.pass rfl rfl rfl rfl (WL.pass rfl rfl rfl rfl (WL.pass rfl rfl rfl rfl (?_))))))))
      refine WL.pickT rfl rfl rfl (WL.nil (WX.then_normal (WC.cond_true rfl (WC.seq (WC.region (WL.assign rfl rfl (WL.nil (?_))))))))
      refine WX.then_normal (WC.ret (WX.then_ret (?_)))
      refine WX.ret1 (.inl rfl) Try.results3 rfl ?_
      refine ⟨_, rfl, ?_, hw⟩
      first
        | rfl
        | (have hc := checkE_append h24 h27 (by omega)
           rw [List.nil_append, if_pos hc, encAll_append, ba_append]
           simp)
        | (have hc := checkE_append h24 h27 (by omega)
           exact absurd hc h47)
    ·
      refine WL.pickF rfl rfl rfl (WL.move rfl rfl (WL.want rfl rfl rfl (WL.move rfl rfl (WL.want rfl rfl rfl (WL.len Try.underlying22 rfl rfl (WL.want rfl rfl rfl (WL.move rfl rfl (?_))))))))
      refine WL.want rfl rfl rfl (WL.len Try.underlying22 rfl rfl (WL.want rfl rfl rfl (WL.add64 rfl rfl (by first | omega | (constructor <;> omega)) rfl (WL.want rfl rfl rfl (?_)))))
      refine WL.gtr? rfl rfl rfl (fun h35 => ?_) (fun h35 => ?_)
      ·
        refine WL.pickF rfl rfl rfl (WL.nil (WX.then_normal (WC.cond_true rfl (WC.seq (WC.region (WL.assign rfl rfl (WL.nil (?_))))))))
        refine WX.then_normal (WC.ret (WX.then_ret (?_)))
        refine WX.ret1 (.inl rfl) Try.results3 rfl ?_
        refine ⟨_, rfl, ?_, hw⟩
        first
          | rfl
          | (have hc := checkE_append h24 h27 (by omega)
             rw [List.nil_append, if_pos hc, encAll_append, ba_append]
             simp)
          | (have hc := checkE_append h24 h27 (by omega)
             exact absurd hc h47)
      ·
        refine WL.pickF rfl rfl rfl (WL.nil (WX.then_normal (WC.cond_false rfl (WC.skip (WX.then_normal (WC.seq (WC.region (?_))))))))
        refine WL.build (e := eit) [] Try.underlying22 Try.sizeOf37 Try.zeroValue37 rfl rfl rfl (by first | (simp [Value.cells]; done) | (simp [Value.cells] <;> rfl) | (simp [Value.cells, eb, ei, es, ebool, e32, e64]; done)) (by decide) rfl ?_
        intro a_hq w_hq hq l_hq z_hq k_hq
        have zs_k_hq := k_hq.size
        replace hl := hl.pure k_hq
        replace hm := hm.pure k_hq
        replace hw := hw.pure k_hq
        replace hb1 := hb1.pure k_hq
        replace hb2 := hb2.pure k_hq
        refine WL.move rfl rfl (?_)
        refine WL.append (e := eit) info_37 rfl Try.underlying22 rfl rfl hq (hl.src Try.underlying22) (by (try simp only [List.length_append, List.length_cons, List.length_nil] at *); omega) (by intro b hb; first | (apply hS; omega) | ((try dsimp only); omega)) rfl ?_
        intro a_hq1 c_hq1 w_hq1 hq1 g_hq1 n_hq1
        have z_hq1 := g_hq1.chg.size
        have zs_g_hq1_chg := g_hq1.chg.size
        replace hl := hl.chg g_hq1.chg (by first | (intro h1; have h2 : _ = _ := h1; exfalso; omega) | (intros; exfalso; (try dsimp only at *); omega) | (intro b h1 h2 h3; exfalso; have h4 := h3.2; (try dsimp only at *); omega) | (intro h1; exfalso; have h4 := h1.2; (try dsimp only at *); omega) | (intro x h1 h2; exfalso; have h4 := h2.2; (try dsimp only at *); omega))
        replace hm := hm.chg g_hq1.chg (by first | (intro h1; have h2 : _ = _ := h1; exfalso; omega) | (intros; exfalso; (try dsimp only at *); omega) | (intro b h1 h2 h3; exfalso; have h4 := h3.2; (try dsimp only at *); omega) | (intro h1; exfalso; have h4 := h1.2; (try dsimp only at *); omega) | (intro x h1 h2; exfalso; have h4 := h2.2; (try dsimp only at *); omega))
        replace hw := hw.chg g_hq1.chg (by first | (intro h1; have h2 : _ = _ := h1; exfalso; omega) | (intros; exfalso; (try dsimp only at *); omega) | (intro b h1 h2 h3; exfalso; have h4 := h3.2; (try dsimp only at *); omega) | (intro h1; exfalso; have h4 := h1.2; (try dsimp only at *); omega) | (intro x h1 h2; exfalso; have h4 := h2.2; (try dsimp only at *); omega))
        replace hb1 := hb1.chg g_hq1.chg (by first | (intro h1; have h2 : _ = _ := h1; exfalso; omega) | (intros; exfalso; (try dsimp only at *); omega) | (intro b h1 h2 h3; exfalso; have h4 := h3.2; (try dsimp only at *); omega) | (intro h1; exfalso; have h4 := h1.2; (try dsimp only at *); omega) | (intro x h1 h2; exfalso; have h4 := h2.2; (try dsimp only at *); omega))
        replace hb2 := hb2.chg g_hq1.chg (by first | (intro h1; have h2 : _ = _ := h1; exfalso; omega) | (intros; exfalso; (try dsimp only at *); omega) | (intro b h1 h2 h3; exfalso; have h4 := h3.2; (try dsimp only at *); omega) | (intro h1; exfalso; have h4 := h1.2; (try dsimp only at *); omega) | (intro x h1 h2; exfalso; have h4 := h2.2; (try dsimp only at *); omega))
        refine WL.move rfl rfl (?_)
        refine WL.append (e := eit) info_37 rfl Try.underlying22 rfl rfl hq1 (hm.src Try.underlying22) (by (try simp only [List.length_append, List.length_cons, List.length_nil] at *); omega) (by intro b hb; first | (apply hS; omega) | ((try dsimp only); omega)) rfl ?_
        intro a_hq2 c_hq2 w_hq2 hq2 g_hq2 n_hq2
        have z_hq2 := g_hq2.chg.size
        have zs_g_hq2_chg := g_hq2.chg.size
        replace hl := hl.chg g_hq2.chg (by first | (intro h1; have h2 : _ = _ := h1; exfalso; omega) | (intros; exfalso; (try dsimp only at *); omega) | (intro b h1 h2 h3; exfalso; have h4 := h3.2; (try dsimp only at *); omega) | (intro h1; exfalso; have h4 := h1.2; (try dsimp only at *); omega) | (intro x h1 h2; exfalso; have h4 := h2.2; (try dsimp only at *); omega))
        replace hm := hm.chg g_hq2.chg (by first | (intro h1; have h2 : _ = _ := h1; exfalso; omega) | (intros; exfalso; (try dsimp only at *); omega) | (intro b h1 h2 h3; exfalso; have h4 := h3.2; (try dsimp only at *); omega) | (intro h1; exfalso; have h4 := h1.2; (try dsimp only at *); omega) | (intro x h1 h2; exfalso; have h4 := h2.2; (try dsimp only at *); omega))
        replace hw := hw.chg g_hq2.chg (by first | (intro h1; have h2 : _ = _ := h1; exfalso; omega) | (intros; exfalso; (try dsimp only at *); omega) | (intro b h1 h2 h3; exfalso; have h4 := h3.2; (try dsimp only at *); omega) | (intro h1; exfalso; have h4 := h1.2; (try dsimp only at *); omega) | (intro x h1 h2; exfalso; have h4 := h2.2; (try dsimp only at *); omega))
        replace hb1 := hb1.chg g_hq2.chg (by first | (intro h1; have h2 : _ = _ := h1; exfalso; omega) | (intros; exfalso; (try dsimp only at *); omega) | (intro b h1 h2 h3; exfalso; have h4 := h3.2; (try dsimp only at *); omega) | (intro h1; exfalso; have h4 := h1.2; (try dsimp only at *); omega) | (intro x h1 h2; exfalso; have h4 := h2.2; (try dsimp only at *); omega))
        replace hb2 := hb2.chg g_hq2.chg (by first | (intro h1; have h2 : _ = _ := h1; exfalso; omega) | (intros; exfalso; (try dsimp only at *); omega) | (intro b h1 h2 h3; exfalso; have h4 := h3.2; (try dsimp only at *); omega) | (intro h1; exfalso; have h4 := h1.2; (try dsimp only at *); omega) | (intro x h1 h2; exfalso; have h4 := h2.2; (try dsimp only at *); omega))
        refine WL.call eg_14 rfl rfl (encode_calls hq2.rsl (by simp; omega)) ?_
        rintro v w3 ⟨a3, c3, rfl, hb3, k3⟩
        have zs_k3 := k3.size
        replace hl := hl.pure k3
        replace hm := hm.pure k3
        replace hw := hw.pure k3
        replace hb1 := hb1.pure k3
        replace hb2 := hb2.pure k3
        replace hq2 := hq2.pure k3
        replace hb3 := hb3.lt
        refine WL.move rfl rfl (WL.extract rfl rfl rfl (WL.extract rfl rfl rfl (WL.assign rfl rfl (WL.assign rfl rfl (WL.nil (WX.then_normal (WC.seq (?_))))))))
        refine WC.region (WL.move rfl rfl (?_))
        refine WL.eql? rfl rfl rfl (fun h47 => ?_) (fun h47 => ?_)
        ·
          refine WL.move rfl rfl (WL.want rfl rfl rfl (WL.move rfl rfl (WL.want rfl rfl rfl (?_))))
          refine WL.toStr Try.underlying24 Try.underlying5 Try.underlying9 hb3.rsl rfl rfl ?_
          refine WL.want rfl rfl rfl (WL.move rfl rfl (WL.want rfl rfl rfl (?_)))
          refine WL.toStr Try.underlying24 Try.underlying5 Try.underlying9 hb1.rsl rfl rfl ?_
          refine WL.want rfl rfl rfl (WL.move rfl rfl (WL.want rfl rfl rfl (?_)))
          refine WL.toStr Try.underlying24 Try.underlying5 Try.underlying9 hb2.rsl rfl rfl ?_
          refine WL.want rfl rfl rfl (?_)
          have e1 := encAll_len (checkE_ok h24).2
          have e2 := encAll_len (checkE_ok h27).2
          have e3 := (checkE_ok h24).1
          have e4 := (checkE_ok h27).1
          rw [if_pos h24] at hb1 ⊢
          rw [if_pos h27] at hb2 ⊢
          refine WL.sadd rfl rfl (by show (encAll l).toArray.size + (encAll m).toArray.size ≤ _; simp; omega) rfl ?_
          refine WL.want rfl rfl rfl (WL.seql rfl rfl rfl (WL.pickT rfl rfl rfl (WL.assign rfl rfl (WL.nil (WX.then_normal (WC.ret (?_)))))))
          refine WX.ret1 (.inl rfl) Try.results3 rfl ?_
          refine ⟨_, rfl, ?_, hw⟩
          first
            | rfl
            | (have hc := checkE_append h24 h27 (by omega)
               rw [List.nil_append, if_pos hc, encAll_append, ba_append]
               simp)
            | (have hc := checkE_append h24 h27 (by omega)
               exact absurd hc h47)
        ·
          refine WL.move rfl rfl (WL.pass rfl rfl rfl rfl (WL.pass rfl rfl rfl rfl (WL.pass rfl rfl rfl rfl (WL.pass rfl rfl rfl rfl (WL.pass rfl rfl rfl rfl (WL.pass rfl rfl rfl rfl (WL.pass rfl rfl rfl rfl (?_))))))))
          refine WL.pass rfl rfl rfl rfl (WL.pickF rfl rfl rfl (WL.assign rfl rfl (WL.nil (WX.then_normal (WC.ret (?_))))))
          refine WX.ret1 (.inl rfl) Try.results3 rfl ?_
          refine ⟨_, rfl, ?_, hw⟩
          first
            | rfl
            | (have hc := checkE_append h24 h27 (by omega)
               rw [List.nil_append, if_pos hc, encAll_append, ba_append]
               simp)
            | (have hc := checkE_append h24 h27 (by omega)
               exact absurd hc h47)
end Go.Proofs.Ytfkaioldfmapjaa
