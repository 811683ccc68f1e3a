import Derived.Test.YtdjlfbadcijjaaaRd
namespace Go.Proofs.Ytdjlfbadcijjaaa
open Go.RowKit Go.HL

/-! a write -/
theorem spendS_dn (s : RA) : (spendS s).dn = s.dn := by unfold spendS; split <;> rfl
theorem spendS_sn (s : RA) : (spendS s).sn = s.sn := by unfold spendS; split <;> rfl
theorem spendS_gone (s : RA) : (spendS s).gone = s.gone := by unfold spendS; split <;> rfl
theorem spendS_waits (s : RA) : (spendS s).waits = s.waits := by unfold spendS; split <;> rfl
theorem spendS_last (s : RA) : (spendS s).last = s.last := by unfold spendS; split <;> rfl
def writeE (s : RA) (d a : Int) (n : Nat) : Int := if ¬ inS s d a ∨ n ≠ 128 then 1 else if goneS s d = true then 3 else if offS s = true then 16 else 0
def writeS (s : RA) (d a : Int) (b : List UInt8) : RA := if writeE s d a b.length = 0 then { spendS s with waits := s.waits ++ [((d, a), b)] } else if writeE s d a b.length = 16 then spendS s else s
theorem writeE_0 {s : RA} {d a : Int} {n : Nat} : writeE s d a n = 0 ↔ inS s d a ∧ n = 128 ∧ goneS s d = false ∧ offS s = false := by
  unfold writeE
  by_cases h1 : inS s d a <;> by_cases h2 : n = 128 <;> cases h3 : goneS s d <;> cases h4 : offS s <;> simp [h1, h2]
theorem writeS_ok {s : RA} (h : s.ok) (d a : Int) (b : List UInt8) : (writeS s d a b).ok := by
  have h1 := spendS_ok h
  unfold writeS
  split
  · rename_i h2
    have hb := (writeE_0.1 h2).2.1
    refine ⟨h1.dn, h1.sn, h1.gl, h1.ll, fun p hp => ?_, h1.lf, h1.nd⟩
    rcases List.mem_append.1 hp with h3 | h3
    · exact h.lw p h3
    · simp at h3
      rw [h3]
      exact hb
  · split
    · exact h1
    · exact h
theorem Write_calls {A S : Nat → Prop} {w : World} {R : Nat} {s : RA} (h : RK A w R s) (d a : Int) {ao : Option Addr} {c : Nat} {b : List UInt8} (hb : RSl S w eb ao c b) (hS : ∀ x, S x → x = R → False) (hn : s.waits.length ≤ 100000) :
    Calls Try.prog 13 [ptr R, vi d, vi a, .slice ao b.length c].toArray w (Ret fun v w' => v = vi (writeE s d a b.length) ∧ RK (fun x => A x ∨ w.heap.size ≤ x) w' R (writeS s d a b) ∧ Chg A w w') := by
  have aR := h.aR
  have hok := h.ok
  have hwok := writeS_ok h.ok d a b
  have hcap := hb.cap
  have hlen : b.length ≤ 140737488355328 ∨ 140737488355328 < b.length := by omega
  have hw := Chg.refl A w
  refine Calls.of_WC Try.func13 rfl Try.ntmps13 (by simp) ?_
  refine WC.seq (WC.region (WL.assign rfl rfl (WL.nil (WX.then_normal (WC.seq (WC.block (WC.seq (?_))))))))
  refine WC.region (WL.move rfl rfl (WL.move rfl rfl (WL.move rfl rfl (?_))))
  refine WL.call eg_30 rfl rfl (in_calls h d a) ?_
  rintro v w1 ⟨rfl, k1⟩
  have zs_k1 := k1.size
  replace h := h.pure k1
  replace hb := hb.pure k1
  replace hw := hw.pure k1
  by_cases h12 : inS s d a
  ·
    rw [show decide (0 ≤ d ∧ d < (s.dn : Int) ∧ 0 ≤ a ∧ a < (s.sn : Int)) = true from decide_eq_true h12]
    refine WL.not rfl rfl (WL.move rfl rfl (WL.want rfl rfl rfl (WL.move rfl rfl (WL.want rfl rfl rfl (WL.len Try.underlying30 rfl rfl (WL.want rfl rfl rfl (?_)))))))
    refine WL.neq? rfl rfl rfl (fun h18 => ?_) (fun h18 => ?_)
    ·
      refine WL.pickF rfl rfl rfl (WL.assign rfl rfl (WL.nil (WX.then_normal (WC.cond_true rfl (WC.seq (WC.region (WL.assign rfl rfl (?_))))))))
      refine WL.nil (WX.then_normal (WC.ret (WX.block_ret (WX.then_ret (?_)))))
      refine WX.ret1 (.inl rfl) Try.results13 rfl ?_
      first
        | (have hh : (b.length : Int) ≠ 128 := h18
           have hh2 : b.length ≠ 128 := by omega
           exact ⟨_, rfl, by simp [writeE, hh2], by rw [show writeS s d a b = s from by simp [writeS, writeE, hh2]]; exact h.mono (fun x hx => .inl hx), hw⟩)
        | (have hh : ¬ inS s d a := h12
           exact ⟨_, rfl, by simp [writeE, h12], by rw [show writeS s d a b = s from by simp [writeS, writeE, h12]]; exact h.mono (fun x hx => .inl hx), hw⟩)
        | (have hh : goneS s d = true := hg
           have hh2 : b.length = 128 := by omega
           exact ⟨_, rfl, by simp [writeE, h12, hh2, hg], by rw [show writeS s d a b = s from by simp [writeS, writeE, h12, hh2, hg]]; exact h.mono (fun x hx => .inl hx), hw⟩)
        | (have hh : offS s = true := ho
           have hh2 : b.length = 128 := by omega
           exact ⟨_, rfl, by simp [writeE, h12, hh2, hg, ho], by rw [show writeS s d a b = spendS s from by simp [writeS, writeE, h12, hh2, hg, ho]]; exact h2.mono (fun x hx => .inl hx), hw⟩)
        | (have hh2 : b.length = 128 := by omega
           have e0 : writeE s d a b.length = 0 := by simp [writeE, h12, hh2, hg, ho]
           refine ⟨_, rfl, by rw [e0], ⟨aR2, hwok, m, ga, gc, ao9, c9, ws ++ [((d, a), ⟨some ⟨gq, 0, none⟩, cq, b⟩)], ls, Eq.mp (congrArg (Blk _ R 66) ?_) hB, ?_, ?_, ?_⟩, hw⟩
           ·
             simp [writeS, e0]
           ·
             simp only [writeS, e0, if_true]
             exact hI9.mono (fun x hx => hx.1)
           ·
             simp only [writeS, e0, if_true]
             exact hls
           ·
             simp only [writeS, e0, if_true]
             rw [spendS_waits] at hws
             rw [hws]
             simp [xsm])
    ·
      refine WL.pickF rfl rfl rfl (WL.assign rfl rfl (WL.nil (WX.then_normal (WC.cond_false rfl (WC.seq (WC.region (WL.move rfl rfl (?_))))))))
      refine WL.nilCheck rfl rfl (WL.fieldAddr (fld_66_3) rfl rfl (?_))
      obtain ⟨m, ga, gc, wa, wc, ws, ls, hB, hI, -⟩ := h.ex
      refine WL.loadB Try.isAgg23 hB rfl rfl rfl ?_
      refine WL.move rfl rfl (?_)
      have hgd := goneS_at h.ok (d := d) ⟨h12.1, h12.2.1⟩
      refine WL.indexT (e := ebool) Try.underlying23 Try.sizeOf4 hI.gone.rsl rfl rfl ⟨hgd, by have := h12.1; omega⟩ rfl ?_
      intro bb oo hcc
      refine WL.load Try.isAgg4 rfl (hcc 0 _ rfl) rfl ?_
      rcases hg : goneS s d with _ | _
      ·
        refine WL.assign rfl rfl (WL.nil (WX.then_normal (WC.cond_false rfl (WC.seq (WC.region (WL.move rfl rfl (?_)))))))
        clear hB hI hcc
        refine WL.call eg_31 rfl rfl (spend_calls h) ?_
        rintro v w2 ⟨rfl, h2, k2, z2⟩
        have zs_k2 := k2.size
        replace hb := hb.chg k2 (by first | (intro x h1 h2; exact h2) | (intro x h0 h1 h2; exact hS x h1 h2) | (intro x h0 h1 h2; have h3 : _ = _ := h2; subst h3; exact hSR h1.1) | (intro x h1 h2; have h3 : _ = _ := h2; subst h3; assumption) | (intro x h1 h2; have h3 : _ = _ := h2; exfalso; omega) | (intro b h1 h2 h3; have h4 : _ = _ := h3; (try dsimp only at h2); exfalso; omega) | (intro h1; have h2 : _ = _ := h1; exfalso; omega) | (intros; exfalso; (try dsimp only at *); omega) | (intro b h1 h2 h3; exfalso; have h4 := h3.2; (try dsimp only at *); omega) | (intro h1; exfalso; have h4 := h1.2; (try dsimp only at *); omega) | (intro x h1 h2; exfalso; have h4 := h2.2; (try dsimp only at *); omega) | (intro x h1 h2; exact h2.1) | (intro x h1 h2; rcases h2.1 with h3 | h3; exact h3; exfalso; omega) | (intro x h1 h2; rcases h2 with h3 | h3; exact h3; exfalso; omega))
        replace hw := hw.chg k2 (by first | (intro x h1 h2; exact h2) | (intro x h0 h1 h2; exact hS x h1 h2) | (intro x h0 h1 h2; have h3 : _ = _ := h2; subst h3; exact hSR h1.1) | (intro x h1 h2; have h3 : _ = _ := h2; subst h3; assumption) | (intro x h1 h2; have h3 : _ = _ := h2; exfalso; omega) | (intro b h1 h2 h3; have h4 : _ = _ := h3; (try dsimp only at h2); exfalso; omega) | (intro h1; have h2 : _ = _ := h1; exfalso; omega) | (intros; exfalso; (try dsimp only at *); omega) | (intro b h1 h2 h3; exfalso; have h4 := h3.2; (try dsimp only at *); omega) | (intro h1; exfalso; have h4 := h1.2; (try dsimp only at *); omega) | (intro x h1 h2; exfalso; have h4 := h2.2; (try dsimp only at *); omega) | (intro x h1 h2; exact h2.1) | (intro x h1 h2; rcases h2.1 with h3 | h3; exact h3; exfalso; omega) | (intro x h1 h2; rcases h2 with h3 | h3; exact h3; exfalso; omega))
        rcases ho : offS s with _ | _
        ·
          refine WL.not rfl rfl (WL.assign rfl rfl (WL.nil (WX.then_normal (WC.cond_false rfl (WC.skip (WX.block_normal (WX.then_normal (?_))))))))
          refine WC.seq (?_)
          obtain ⟨m, ga, gc, wa, wc, ws, ls, hB, hI, hls, hws⟩ := h2.ex
          replace hI := (hI.open hB).mono (S' := fun x => (A x ∨ w.heap.size ≤ x) ∧ x ≠ R) (fun x hx => ⟨.inl hx.1, hx.2⟩)
          have aR2 : A R ∨ w.heap.size ≤ R := .inl aR
          have lR := hB.lt
          have zw := hw.size
          have hwl : ws.length ≤ 100000 := by rw [← xsm_len, ← hws, spendS_waits]; exact hn
          refine WC.drawM ((fun x => A x ∨ w.heap.size ≤ x)) [0, 1, 2, 3, 5, 6, 7, 8, 13, 14] [4, 9, 10, 11, 12, 15] mixed rfl rfl (fun wd_1 kd_1 zd_1 => ?_)
          have zs_kd_1 := kd_1.size
          replace hb := hb.pure kd_1
          replace hw := hw.pure kd_1
          replace hB := hB.pure kd_1
          replace hI := hI.pure kd_1
          apply DQT.step (E' := [(0, _)])
          case ho => rfl
          case hs => exact ⟨rfl, trivial⟩
          case hk => rfl
          case h1 =>
            intro wq_3 kq_3
            refine WL.move rfl rfl (?_)
            refine WL.nil ?_
            exact WX.one ⟨rfl, by first | exact Chg.refl _ _ | assumption⟩
          apply DQT.step (E' := [(0, _)])
          case ho => rfl
          case hs => exact ⟨rfl, trivial⟩
          case hk => rfl
          case h1 =>
            intro wq_4 kq_4
            refine WL.move rfl rfl (?_)
            refine WL.nil ?_
            exact WX.one ⟨rfl, by first | exact Chg.refl _ _ | assumption⟩
          apply DQT.step (E' := [(33, _)])
          case ho => rfl
          case hs => exact ⟨rfl, trivial⟩
          case hk => rfl
          case h1 =>
            intro wq_5 kq_5
            refine WL.nilCheck rfl rfl (?_)
            refine WL.nil ?_
            exact WX.one ⟨rfl, by first | exact Chg.refl _ _ | assumption⟩
          apply DQT.step (E' := [(34, _)])
          case ho => rfl
          case hs => exact ⟨rfl, trivial⟩
          case hk => rfl
          case h1 =>
            intro wq_6 kq_6
            refine WL.fieldAddr (fld_66_4) rfl rfl (?_)
            refine WL.nil ?_
            exact WX.one ⟨rfl, by first | exact Chg.refl _ _ | assumption⟩
          apply DQT.step (E' := [(1, _)])
          case ho => rfl
          case hs => exact ⟨rfl, trivial⟩
          case hk => rfl
          case h1 =>
            intro wq_7 kq_7
            refine WL.move rfl rfl (?_)
            refine WL.nil ?_
            exact WX.one ⟨rfl, by first | exact Chg.refl _ _ | assumption⟩
          apply DQT.step (E' := [(2, _)])
          case ho => rfl
          case hs => exact ⟨rfl, trivial⟩
          case hk => rfl
          case h1 =>
            intro wq_8 kq_8
            refine WL.move rfl rfl (?_)
            refine WL.nil ?_
            exact WX.one ⟨rfl, by first | exact Chg.refl _ _ | assumption⟩
          apply DQT.step (E' := [(37, _), (38, _)])
          case ho => rfl
          case hs => exact ⟨rfl, rfl, trivial⟩
          case hk => rfl
          case h1 =>
            intro wq_9 kq_9
            refine WL.bld rfl (bld_69_0_1 _ _) rfl (?_)
            refine WL.nil ?_
            exact WX.one ⟨rfl, by first | exact Chg.refl _ _ | assumption⟩
          apply DQT.step (E' := [(3, _)])
          case ho => rfl
          case hs => exact ⟨rfl, trivial⟩
          case hk => rfl
          case h1 =>
            intro wq_10 kq_10
            refine WL.move rfl rfl (?_)
            refine WL.nil ?_
            exact WX.one ⟨rfl, by first | exact Chg.refl _ _ | assumption⟩
          apply DQT.step (E' := [(32, _)])
          case ho => rfl
          case hs => exact ⟨rfl, trivial⟩
          case hk => rfl
          case h1 =>
            intro wq_11 kq_11
            refine WL.nilCheck rfl rfl (?_)
            refine WL.nil ?_
            exact WX.one ⟨rfl, by first | exact Chg.refl _ _ | assumption⟩
          apply DQT.step (E' := [(45, _)])
          case ho => rfl
          case hs => exact ⟨rfl, trivial⟩
          case hk => rfl
          case h1 =>
            intro wq_12 kq_12
            refine WL.fieldAddr (fld_66_4) rfl rfl (?_)
            refine WL.nil ?_
            exact WX.one ⟨rfl, by first | exact Chg.refl _ _ | assumption⟩
          refine DQT.done (fun hd_2 => ?_)
          refine ⟨?_, ?_, trivial, trivial, trivial, trivial, trivial⟩
          refine DT.step [(35, _)] rfl ⟨rfl, trivial⟩ rfl (fun wq_13 kq_13 => ?_)
          have zs_kq_13 := kq_13.size
          replace hb := hb.pure kq_13
          replace hw := hw.pure kq_13
          replace hB := hB.pure kq_13
          replace hI := hI.pure kq_13
          replace hd_2 := hd_2.pure kq_13
          refine WL.loadB Try.isAgg64 hB rfl rfl rfl (?_)
          refine WL.nil ?_
          refine WX.one ⟨hd_2, ?_⟩
          refine ⟨?_, trivial, trivial, trivial, trivial, trivial⟩
          refine DT.step [(40, _)] rfl ⟨rfl, trivial⟩ rfl (fun wq_14 kq_14 => ?_)
          have zs_kq_14 := kq_14.size
          replace hb := hb.pure kq_14
          replace hw := hw.pure kq_14
          replace hB := hB.pure kq_14
          replace hI := hI.pure kq_14
          replace hd_2 := hd_2.pure kq_14
          refine WL.call eg_32 rfl rfl (clone_calls hb (by omega)) ?_
          rintro v w3 ⟨⟨gq, cq, rfl, hq, hq1, hq2⟩, k3⟩
          have zs_k3 := k3.size
          replace hb := hb.pure k3
          replace hw := hw.pure k3
          replace hB := hB.pure k3
          replace hI := hI.pure k3
          replace hd_2 := hd_2.pure k3
          refine WL.nil ?_
          refine WX.one ⟨hd_2, ?_⟩
          refine ⟨?_, trivial, trivial, trivial, trivial⟩
          refine DT.step [(39, _), (41, _)] rfl ⟨rfl, rfl, trivial⟩ rfl (fun wq_15 kq_15 => ?_)
          have zs_kq_15 := kq_15.size
          replace hb := hb.pure kq_15
          replace hw := hw.pure kq_15
          replace hB := hB.pure kq_15
          replace hI := hI.pure kq_15
          replace hd_2 := hd_2.pure kq_15
          replace hq := hq.pure kq_15
          refine WL.bld rfl (bld_72_0_1 _ _ _ _ _) rfl (?_)
          refine WL.nil ?_
          refine WX.one ⟨hd_2, ?_⟩
          refine ⟨?_, trivial, trivial, trivial⟩
          refine DT.step [(42, _)] rfl ⟨rfl, trivial⟩ rfl (fun wq_16 kq_16 => ?_)
          have zs_kq_16 := kq_16.size
          replace hb := hb.pure kq_16
          replace hw := hw.pure kq_16
          replace hB := hB.pure kq_16
          replace hI := hI.pure kq_16
          replace hd_2 := hd_2.pure kq_16
          replace hq := hq.pure kq_16
          refine WL.build (e := ewr) [((d, a), ⟨some ⟨gq, 0, none⟩, cq, b⟩)] Try.underlying64 Try.sizeOf72 Try.zeroValue72 rfl rfl rfl (by first | (simp [Value.cells]; done) | (simp [Value.cells] <;> rfl) | (simp [Value.cells, eb, ei, es, ebool, e32, e64]; done)) (by decide) rfl ?_
          intro a_b43 w_b43 b43 l_b43 z_b43 k_b43
          have zs_k_b43 := k_b43.size
          replace hb := hb.pure k_b43
          replace hw := hw.pure k_b43
          replace hB := hB.pure k_b43
          replace hI := hI.pure k_b43
          replace hd_2 := hd_2.pure k_b43
          replace hq := hq.pure k_b43
          refine WL.nil ?_
          refine WX.one ⟨hd_2, ?_⟩
          refine ⟨?_, trivial, trivial⟩
          refine DT.step [(36, _), (43, _)] rfl ⟨rfl, rfl, trivial⟩ rfl (fun wq_17 kq_17 => ?_)
          have zs_kq_17 := kq_17.size
          replace hb := hb.pure kq_17
          replace hw := hw.pure kq_17
          replace hB := hB.pure kq_17
          replace hI := hI.pure kq_17
          replace hd_2 := hd_2.pure kq_17
          replace hq := hq.pure kq_17
          replace b43 := b43.pure kq_17
          refine WL.append (e := ewr) info_72 rfl Try.underlying64 rfl rfl hI.waits (b43.rsl.src Try.underlying64) (by constructor <;> (simp only [List.length_cons, List.length_nil]; omega)) (fun x hx => ⟨.inr (by omega), by omega⟩) rfl ?_
          intro ao9 c9 w9 hb9 gg9 n9
          have hq9 : Row (fun x => (A x ∨ w.heap.size ≤ x) ∧ x ≠ R) _ 5 eb (some ⟨gq, 0, none⟩) cq b := hq.mono (fun x hx => ⟨.inr (by omega), by omega⟩)
          have hI9 := hI.setWaits hb9 gg9.chg (fun x hx => hx.1) (fun p hp => by
            rcases List.mem_append.1 hp with h3 | h3
            ·
              exact .inl ⟨p, h3, rfl⟩
            ·
              simp at h3
              right
              rw [h3]
              exact hq9)
          have gk : Chg (fun x => (A x ∨ w.heap.size ≤ x) ∧ x ≠ R) _ w9 := gg9.chg.mono (fun x _ hx => hx.2)
          have zs_gk := gk.size
          replace hw := hw.chg gk (by first | (intro x h1 h2; exact h2) | (intro x h0 h1 h2; exact hS x h1 h2) | (intro x h0 h1 h2; have h3 : _ = _ := h2; subst h3; exact hSR h1.1) | (intro x h1 h2; have h3 : _ = _ := h2; subst h3; assumption) | (intro x h1 h2; have h3 : _ = _ := h2; exfalso; omega) | (intro b h1 h2 h3; have h4 : _ = _ := h3; (try dsimp only at h2); exfalso; omega) | (intro h1; have h2 : _ = _ := h1; exfalso; omega) | (intros; exfalso; (try dsimp only at *); omega) | (intro b h1 h2 h3; exfalso; have h4 := h3.2; (try dsimp only at *); omega) | (intro h1; exfalso; have h4 := h1.2; (try dsimp only at *); omega) | (intro x h1 h2; exfalso; have h4 := h2.2; (try dsimp only at *); omega) | (intro x h1 h2; exact h2.1) | (intro x h1 h2; rcases h2.1 with h3 | h3; exact h3; exfalso; omega) | (intro x h1 h2; rcases h2 with h3 | h3; exact h3; exfalso; omega))
          replace hB := hB.chg gk (by first | (intro x h1 h2; exact h2) | (intro x h0 h1 h2; exact hS x h1 h2) | (intro x h0 h1 h2; have h3 : _ = _ := h2; subst h3; exact hSR h1.1) | (intro x h1 h2; have h3 : _ = _ := h2; subst h3; assumption) | (intro x h1 h2; have h3 : _ = _ := h2; exfalso; omega) | (intro b h1 h2 h3; have h4 : _ = _ := h3; (try dsimp only at h2); exfalso; omega) | (intro h1; have h2 : _ = _ := h1; exfalso; omega) | (intros; exfalso; (try dsimp only at *); omega) | (intro b h1 h2 h3; exfalso; have h4 := h3.2; (try dsimp only at *); omega) | (intro h1; exfalso; have h4 := h1.2; (try dsimp only at *); omega) | (intro x h1 h2; exfalso; have h4 := h2.2; (try dsimp only at *); omega) | (intro x h1 h2; exact h2.1) | (intro x h1 h2; rcases h2.1 with h3 | h3; exact h3; exfalso; omega) | (intro x h1 h2; rcases h2 with h3 | h3; exact h3; exfalso; omega))
          replace hd_2 := hd_2.chg gk (by first | (intro x h1 h2; exact h2) | (intro x h0 h1 h2; exact hS x h1 h2) | (intro x h0 h1 h2; have h3 : _ = _ := h2; subst h3; exact hSR h1.1) | (intro x h1 h2; have h3 : _ = _ := h2; subst h3; assumption) | (intro x h1 h2; have h3 : _ = _ := h2; exfalso; omega) | (intro b h1 h2 h3; have h4 : _ = _ := h3; (try dsimp only at h2); exfalso; omega) | (intro h1; have h2 : _ = _ := h1; exfalso; omega) | (intros; exfalso; (try dsimp only at *); omega) | (intro b h1 h2 h3; exfalso; have h4 := h3.2; (try dsimp only at *); omega) | (intro h1; exfalso; have h4 := h1.2; (try dsimp only at *); omega) | (intro x h1 h2; exfalso; have h4 := h2.2; (try dsimp only at *); omega) | (intro x h1 h2; exact h2.1) | (intro x h1 h2; rcases h2.1 with h3 | h3; exact h3; exfalso; omega) | (intro x h1 h2; rcases h2 with h3 | h3; exact h3; exfalso; omega))
          refine WL.nil ?_
          refine WX.one ⟨hd_2, ?_⟩
          refine ⟨?_, trivial⟩
          refine DT.step [(46, _), (44, _)] rfl ⟨rfl, rfl, trivial⟩ rfl (fun wq_18 kq_18 => ?_)
          have zs_kq_18 := kq_18.size
          replace hw := hw.pure kq_18
          replace hB := hB.pure kq_18
          replace hd_2 := hd_2.pure kq_18
          replace hI9 := hI9.pure kq_18
          refine WL.store Try.sizeOf64 hB rfl rfl rfl rfl ?_
          intro w_19 hs_19 hn_19 k_19
          have zs_k_19 := k_19.size
          replace hw := hw.chg k_19 (by first | (intro x h1 h2; exact h2) | (intro x h0 h1 h2; exact hS x h1 h2) | (intro x h0 h1 h2; have h3 : _ = _ := h2; subst h3; exact hSR h1.1) | (intro x h1 h2; have h3 : _ = _ := h2; subst h3; assumption) | (intro x h1 h2; have h3 : _ = _ := h2; exfalso; omega) | (intro b h1 h2 h3; have h4 : _ = _ := h3; (try dsimp only at h2); exfalso; omega) | (intro h1; have h2 : _ = _ := h1; exfalso; omega) | (intros; exfalso; (try dsimp only at *); omega) | (intro b h1 h2 h3; exfalso; have h4 := h3.2; (try dsimp only at *); omega) | (intro h1; exfalso; have h4 := h1.2; (try dsimp only at *); omega) | (intro x h1 h2; exfalso; have h4 := h2.2; (try dsimp only at *); omega) | (intro x h1 h2; exact h2.1) | (intro x h1 h2; rcases h2.1 with h3 | h3; exact h3; exfalso; omega) | (intro x h1 h2; rcases h2 with h3 | h3; exact h3; exfalso; omega))
          replace hd_2 := hd_2.chg k_19 (by first | (intro x h1 h2; exact h2) | (intro x h0 h1 h2; exact hS x h1 h2) | (intro x h0 h1 h2; have h3 : _ = _ := h2; subst h3; exact hSR h1.1) | (intro x h1 h2; have h3 : _ = _ := h2; subst h3; assumption) | (intro x h1 h2; have h3 : _ = _ := h2; exfalso; omega) | (intro b h1 h2 h3; have h4 : _ = _ := h3; (try dsimp only at h2); exfalso; omega) | (intro h1; have h2 : _ = _ := h1; exfalso; omega) | (intros; exfalso; (try dsimp only at *); omega) | (intro b h1 h2 h3; exfalso; have h4 := h3.2; (try dsimp only at *); omega) | (intro h1; exfalso; have h4 := h1.2; (try dsimp only at *); omega) | (intro x h1 h2; exfalso; have h4 := h2.2; (try dsimp only at *); omega) | (intro x h1 h2; exact h2.1) | (intro x h1 h2; rcases h2.1 with h3 | h3; exact h3; exfalso; omega) | (intro x h1 h2; rcases h2 with h3 | h3; exact h3; exfalso; omega))
          replace hI9 := hI9.chg k_19 (by first | (intro x h1 h2; exact h2) | (intro x h0 h1 h2; exact hS x h1 h2) | (intro x h0 h1 h2; have h3 : _ = _ := h2; subst h3; exact hSR h1.1) | (intro x h1 h2; have h3 : _ = _ := h2; subst h3; assumption) | (intro x h1 h2; have h3 : _ = _ := h2; exfalso; omega) | (intro b h1 h2 h3; have h4 : _ = _ := h3; (try dsimp only at h2); exfalso; omega) | (intro h1; have h2 : _ = _ := h1; exfalso; omega) | (intros; exfalso; (try dsimp only at *); omega) | (intro b h1 h2 h3; exfalso; have h4 := h3.2; (try dsimp only at *); omega) | (intro h1; exfalso; have h4 := h1.2; (try dsimp only at *); omega) | (intro x h1 h2; exfalso; have h4 := h2.2; (try dsimp only at *); omega) | (intro x h1 h2; exact h2.1) | (intro x h1 h2; rcases h2.1 with h3 | h3; exact h3; exfalso; omega) | (intro x h1 h2; rcases h2 with h3 | h3; exact h3; exfalso; omega))
          replace hB := hn_19
          refine WL.nil ?_
          refine WX.one0 (v := undef) ⟨hd_2, ?_⟩
          refine DT.done (fun we_20 ke_20 => ?_) _
          have zs_ke_20 := ke_20.size
          replace hw := hw.pure ke_20
          replace hB := hB.pure ke_20
          replace hd_2 := hd_2.pure ke_20
          replace hI9 := hI9.pure ke_20
          rotate_left
          refine DT.step [(40, _)] rfl ⟨rfl, trivial⟩ rfl (fun wq_13 kq_13 => ?_)
          have zs_kq_13 := kq_13.size
          replace hb := hb.pure kq_13
          replace hw := hw.pure kq_13
          replace hB := hB.pure kq_13
          replace hI := hI.pure kq_13
          replace hd_2 := hd_2.pure kq_13
          refine WL.call eg_32 rfl rfl (clone_calls hb (by omega)) ?_
          rintro v w3 ⟨⟨gq, cq, rfl, hq, hq1, hq2⟩, k3⟩
          have zs_k3 := k3.size
          replace hb := hb.pure k3
          replace hw := hw.pure k3
          replace hB := hB.pure k3
          replace hI := hI.pure k3
          replace hd_2 := hd_2.pure k3
          refine WL.nil ?_
          refine WX.one ⟨hd_2, ?_⟩
          refine ⟨?_, ?_, trivial, trivial, trivial, trivial⟩
          refine DT.step [(35, _)] rfl ⟨rfl, trivial⟩ rfl (fun wq_14 kq_14 => ?_)
          have zs_kq_14 := kq_14.size
          replace hb := hb.pure kq_14
          replace hw := hw.pure kq_14
          replace hB := hB.pure kq_14
          replace hI := hI.pure kq_14
          replace hd_2 := hd_2.pure kq_14
          replace hq := hq.pure kq_14
          refine WL.loadB Try.isAgg64 hB rfl rfl rfl (?_)
          refine WL.nil ?_
          refine WX.one ⟨hd_2, ?_⟩
          refine ⟨?_, trivial, trivial, trivial, trivial⟩
          refine DT.step [(39, _), (41, _)] rfl ⟨rfl, rfl, trivial⟩ rfl (fun wq_15 kq_15 => ?_)
          have zs_kq_15 := kq_15.size
          replace hb := hb.pure kq_15
          replace hw := hw.pure kq_15
          replace hB := hB.pure kq_15
          replace hI := hI.pure kq_15
          replace hd_2 := hd_2.pure kq_15
          replace hq := hq.pure kq_15
          refine WL.bld rfl (bld_72_0_1 _ _ _ _ _) rfl (?_)
          refine WL.nil ?_
          refine WX.one ⟨hd_2, ?_⟩
          refine ⟨?_, trivial, trivial, trivial⟩
          refine DT.step [(42, _)] rfl ⟨rfl, trivial⟩ rfl (fun wq_16 kq_16 => ?_)
          have zs_kq_16 := kq_16.size
          replace hb := hb.pure kq_16
          replace hw := hw.pure kq_16
          replace hB := hB.pure kq_16
          replace hI := hI.pure kq_16
          replace hd_2 := hd_2.pure kq_16
          replace hq := hq.pure kq_16
          refine WL.build (e := ewr) [((d, a), ⟨some ⟨gq, 0, none⟩, cq, b⟩)] Try.underlying64 Try.sizeOf72 Try.zeroValue72 rfl rfl rfl (by first | (simp [Value.cells]; done) | (simp [Value.cells] <;> rfl) | (simp [Value.cells, eb, ei, es, ebool, e32, e64]; done)) (by decide) rfl ?_
          intro a_b43 w_b43 b43 l_b43 z_b43 k_b43
          have zs_k_b43 := k_b43.size
          replace hb := hb.pure k_b43
          replace hw := hw.pure k_b43
          replace hB := hB.pure k_b43
          replace hI := hI.pure k_b43
          replace hd_2 := hd_2.pure k_b43
          replace hq := hq.pure k_b43
          refine WL.nil ?_
          refine WX.one ⟨hd_2, ?_⟩
          refine ⟨?_, trivial, trivial⟩
          refine DT.step [(36, _), (43, _)] rfl ⟨rfl, rfl, trivial⟩ rfl (fun wq_17 kq_17 => ?_)
          have zs_kq_17 := kq_17.size
          replace hb := hb.pure kq_17
          replace hw := hw.pure kq_17
          replace hB := hB.pure kq_17
          replace hI := hI.pure kq_17
          replace hd_2 := hd_2.pure kq_17
          replace hq := hq.pure kq_17
          replace b43 := b43.pure kq_17
          refine WL.append (e := ewr) info_72 rfl Try.underlying64 rfl rfl hI.waits (b43.rsl.src Try.underlying64) (by constructor <;> (simp only [List.length_cons, List.length_nil]; omega)) (fun x hx => ⟨.inr (by omega), by omega⟩) rfl ?_
          intro ao9 c9 w9 hb9 gg9 n9
          have hq9 : Row (fun x => (A x ∨ w.heap.size ≤ x) ∧ x ≠ R) _ 5 eb (some ⟨gq, 0, none⟩) cq b := hq.mono (fun x hx => ⟨.inr (by omega), by omega⟩)
          have hI9 := hI.setWaits hb9 gg9.chg (fun x hx => hx.1) (fun p hp => by
            rcases List.mem_append.1 hp with h3 | h3
            ·
              exact .inl ⟨p, h3, rfl⟩
            ·
              simp at h3
              right
              rw [h3]
              exact hq9)
          have gk : Chg (fun x => (A x ∨ w.heap.size ≤ x) ∧ x ≠ R) _ w9 := gg9.chg.mono (fun x _ hx => hx.2)
          have zs_gk := gk.size
          replace hw := hw.chg gk (by first | (intro x h1 h2; exact h2) | (intro x h0 h1 h2; exact hS x h1 h2) | (intro x h0 h1 h2; have h3 : _ = _ := h2; subst h3; exact hSR h1.1) | (intro x h1 h2; have h3 : _ = _ := h2; subst h3; assumption) | (intro x h1 h2; have h3 : _ = _ := h2; exfalso; omega) | (intro b h1 h2 h3; have h4 : _ = _ := h3; (try dsimp only at h2); exfalso; omega) | (intro h1; have h2 : _ = _ := h1; exfalso; omega) | (intros; exfalso; (try dsimp only at *); omega) | (intro b h1 h2 h3; exfalso; have h4 := h3.2; (try dsimp only at *); omega) | (intro h1; exfalso; have h4 := h1.2; (try dsimp only at *); omega) | (intro x h1 h2; exfalso; have h4 := h2.2; (try dsimp only at *); omega) | (intro x h1 h2; exact h2.1) | (intro x h1 h2; rcases h2.1 with h3 | h3; exact h3; exfalso; omega) | (intro x h1 h2; rcases h2 with h3 | h3; exact h3; exfalso; omega))
          replace hB := hB.chg gk (by first | (intro x h1 h2; exact h2) | (intro x h0 h1 h2; exact hS x h1 h2) | (intro x h0 h1 h2; have h3 : _ = _ := h2; subst h3; exact hSR h1.1) | (intro x h1 h2; have h3 : _ = _ := h2; subst h3; assumption) | (intro x h1 h2; have h3 : _ = _ := h2; exfalso; omega) | (intro b h1 h2 h3; have h4 : _ = _ := h3; (try dsimp only at h2); exfalso; omega) | (intro h1; have h2 : _ = _ := h1; exfalso; omega) | (intros; exfalso; (try dsimp only at *); omega) | (intro b h1 h2 h3; exfalso; have h4 := h3.2; (try dsimp only at *); omega) | (intro h1; exfalso; have h4 := h1.2; (try dsimp only at *); omega) | (intro x h1 h2; exfalso; have h4 := h2.2; (try dsimp only at *); omega) | (intro x h1 h2; exact h2.1) | (intro x h1 h2; rcases h2.1 with h3 | h3; exact h3; exfalso; omega) | (intro x h1 h2; rcases h2 with h3 | h3; exact h3; exfalso; omega))
          replace hd_2 := hd_2.chg gk (by first | (intro x h1 h2; exact h2) | (intro x h0 h1 h2; exact hS x h1 h2) | (intro x h0 h1 h2; have h3 : _ = _ := h2; subst h3; exact hSR h1.1) | (intro x h1 h2; have h3 : _ = _ := h2; subst h3; assumption) | (intro x h1 h2; have h3 : _ = _ := h2; exfalso; omega) | (intro b h1 h2 h3; have h4 : _ = _ := h3; (try dsimp only at h2); exfalso; omega) | (intro h1; have h2 : _ = _ := h1; exfalso; omega) | (intros; exfalso; (try dsimp only at *); omega) | (intro b h1 h2 h3; exfalso; have h4 := h3.2; (try dsimp only at *); omega) | (intro h1; exfalso; have h4 := h1.2; (try dsimp only at *); omega) | (intro x h1 h2; exfalso; have h4 := h2.2; (try dsimp only at *); omega) | (intro x h1 h2; exact h2.1) | (intro x h1 h2; rcases h2.1 with h3 | h3; exact h3; exfalso; omega) | (intro x h1 h2; rcases h2 with h3 | h3; exact h3; exfalso; omega))
          refine WL.nil ?_
          refine WX.one ⟨hd_2, ?_⟩
          refine ⟨?_, trivial⟩
          refine DT.step [(46, _), (44, _)] rfl ⟨rfl, rfl, trivial⟩ rfl (fun wq_18 kq_18 => ?_)
          have zs_kq_18 := kq_18.size
          replace hw := hw.pure kq_18
          replace hB := hB.pure kq_18
          replace hd_2 := hd_2.pure kq_18
          replace hI9 := hI9.pure kq_18
          refine WL.store Try.sizeOf64 hB rfl rfl rfl rfl ?_
          intro w_19 hs_19 hn_19 k_19
          have zs_k_19 := k_19.size
          replace hw := hw.chg k_19 (by first | (intro x h1 h2; exact h2) | (intro x h0 h1 h2; exact hS x h1 h2) | (intro x h0 h1 h2; have h3 : _ = _ := h2; subst h3; exact hSR h1.1) | (intro x h1 h2; have h3 : _ = _ := h2; subst h3; assumption) | (intro x h1 h2; have h3 : _ = _ := h2; exfalso; omega) | (intro b h1 h2 h3; have h4 : _ = _ := h3; (try dsimp only at h2); exfalso; omega) | (intro h1; have h2 : _ = _ := h1; exfalso; omega) | (intros; exfalso; (try dsimp only at *); omega) | (intro b h1 h2 h3; exfalso; have h4 := h3.2; (try dsimp only at *); omega) | (intro h1; exfalso; have h4 := h1.2; (try dsimp only at *); omega) | (intro x h1 h2; exfalso; have h4 := h2.2; (try dsimp only at *); omega) | (intro x h1 h2; exact h2.1) | (intro x h1 h2; rcases h2.1 with h3 | h3; exact h3; exfalso; omega) | (intro x h1 h2; rcases h2 with h3 | h3; exact h3; exfalso; omega))
          replace hd_2 := hd_2.chg k_19 (by first | (intro x h1 h2; exact h2) | (intro x h0 h1 h2; exact hS x h1 h2) | (intro x h0 h1 h2; have h3 : _ = _ := h2; subst h3; exact hSR h1.1) | (intro x h1 h2; have h3 : _ = _ := h2; subst h3; assumption) | (intro x h1 h2; have h3 : _ = _ := h2; exfalso; omega) | (intro b h1 h2 h3; have h4 : _ = _ := h3; (try dsimp only at h2); exfalso; omega) | (intro h1; have h2 : _ = _ := h1; exfalso; omega) | (intros; exfalso; (try dsimp only at *); omega) | (intro b h1 h2 h3; exfalso; have h4 := h3.2; (try dsimp only at *); omega) | (intro h1; exfalso; have h4 := h1.2; (try dsimp only at *); omega) | (intro x h1 h2; exfalso; have h4 := h2.2; (try dsimp only at *); omega) | (intro x h1 h2; exact h2.1) | (intro x h1 h2; rcases h2.1 with h3 | h3; exact h3; exfalso; omega) | (intro x h1 h2; rcases h2 with h3 | h3; exact h3; exfalso; omega))
          replace hI9 := hI9.chg k_19 (by first | (intro x h1 h2; exact h2) | (intro x h0 h1 h2; exact hS x h1 h2) | (intro x h0 h1 h2; have h3 : _ = _ := h2; subst h3; exact hSR h1.1) | (intro x h1 h2; have h3 : _ = _ := h2; subst h3; assumption) | (intro x h1 h2; have h3 : _ = _ := h2; exfalso; omega) | (intro b h1 h2 h3; have h4 : _ = _ := h3; (try dsimp only at h2); exfalso; omega) | (intro h1; have h2 : _ = _ := h1; exfalso; omega) | (intros; exfalso; (try dsimp only at *); omega) | (intro b h1 h2 h3; exfalso; have h4 := h3.2; (try dsimp only at *); omega) | (intro h1; exfalso; have h4 := h1.2; (try dsimp only at *); omega) | (intro x h1 h2; exfalso; have h4 := h2.2; (try dsimp only at *); omega) | (intro x h1 h2; exact h2.1) | (intro x h1 h2; rcases h2.1 with h3 | h3; exact h3; exfalso; omega) | (intro x h1 h2; rcases h2 with h3 | h3; exact h3; exfalso; omega))
          replace hB := hn_19
          refine WL.nil ?_
          refine WX.one0 (v := undef) ⟨hd_2, ?_⟩
          refine DT.done (fun we_20 ke_20 => ?_) _
          have zs_ke_20 := ke_20.size
          replace hw := hw.pure ke_20
          replace hB := hB.pure ke_20
          replace hd_2 := hd_2.pure ke_20
          replace hI9 := hI9.pure ke_20
          rotate_left
          refine DT.step [(39, _), (41, _)] rfl ⟨rfl, rfl, trivial⟩ rfl (fun wq_14 kq_14 => ?_)
          have zs_kq_14 := kq_14.size
          replace hb := hb.pure kq_14
          replace hw := hw.pure kq_14
          replace hB := hB.pure kq_14
          replace hI := hI.pure kq_14
          replace hd_2 := hd_2.pure kq_14
          replace hq := hq.pure kq_14
          refine WL.bld rfl (bld_72_0_1 _ _ _ _ _) rfl (?_)
          refine WL.nil ?_
          refine WX.one ⟨hd_2, ?_⟩
          refine ⟨?_, ?_, trivial, trivial, trivial⟩
          refine DT.step [(35, _)] rfl ⟨rfl, trivial⟩ rfl (fun wq_15 kq_15 => ?_)
          have zs_kq_15 := kq_15.size
          replace hb := hb.pure kq_15
          replace hw := hw.pure kq_15
          replace hB := hB.pure kq_15
          replace hI := hI.pure kq_15
          replace hd_2 := hd_2.pure kq_15
          replace hq := hq.pure kq_15
          refine WL.loadB Try.isAgg64 hB rfl rfl rfl (?_)
          refine WL.nil ?_
          refine WX.one ⟨hd_2, ?_⟩
          refine ⟨?_, trivial, trivial, trivial⟩
          refine DT.step [(42, _)] rfl ⟨rfl, trivial⟩ rfl (fun wq_16 kq_16 => ?_)
          have zs_kq_16 := kq_16.size
          replace hb := hb.pure kq_16
          replace hw := hw.pure kq_16
          replace hB := hB.pure kq_16
          replace hI := hI.pure kq_16
          replace hd_2 := hd_2.pure kq_16
          replace hq := hq.pure kq_16
          refine WL.build (e := ewr) [((d, a), ⟨some ⟨gq, 0, none⟩, cq, b⟩)] Try.underlying64 Try.sizeOf72 Try.zeroValue72 rfl rfl rfl (by first | (simp [Value.cells]; done) | (simp [Value.cells] <;> rfl) | (simp [Value.cells, eb, ei, es, ebool, e32, e64]; done)) (by decide) rfl ?_
          intro a_b43 w_b43 b43 l_b43 z_b43 k_b43
          have zs_k_b43 := k_b43.size
          replace hb := hb.pure k_b43
          replace hw := hw.pure k_b43
          replace hB := hB.pure k_b43
          replace hI := hI.pure k_b43
          replace hd_2 := hd_2.pure k_b43
          replace hq := hq.pure k_b43
          refine WL.nil ?_
          refine WX.one ⟨hd_2, ?_⟩
          refine ⟨?_, trivial, trivial⟩
          refine DT.step [(36, _), (43, _)] rfl ⟨rfl, rfl, trivial⟩ rfl (fun wq_17 kq_17 => ?_)
          have zs_kq_17 := kq_17.size
          replace hb := hb.pure kq_17
          replace hw := hw.pure kq_17
          replace hB := hB.pure kq_17
          replace hI := hI.pure kq_17
          replace hd_2 := hd_2.pure kq_17
          replace hq := hq.pure kq_17
          replace b43 := b43.pure kq_17
          refine WL.append (e := ewr) info_72 rfl Try.underlying64 rfl rfl hI.waits (b43.rsl.src Try.underlying64) (by constructor <;> (simp only [List.length_cons, List.length_nil]; omega)) (fun x hx => ⟨.inr (by omega), by omega⟩) rfl ?_
          intro ao9 c9 w9 hb9 gg9 n9
          have hq9 : Row (fun x => (A x ∨ w.heap.size ≤ x) ∧ x ≠ R) _ 5 eb (some ⟨gq, 0, none⟩) cq b := hq.mono (fun x hx => ⟨.inr (by omega), by omega⟩)
          have hI9 := hI.setWaits hb9 gg9.chg (fun x hx => hx.1) (fun p hp => by
            rcases List.mem_append.1 hp with h3 | h3
            ·
              exact .inl ⟨p, h3, rfl⟩
            ·
              simp at h3
              right
              rw [h3]
              exact hq9)
          have gk : Chg (fun x => (A x ∨ w.heap.size ≤ x) ∧ x ≠ R) _ w9 := gg9.chg.mono (fun x _ hx => hx.2)
          have zs_gk := gk.size
          replace hw := hw.chg gk (by first | (intro x h1 h2; exact h2) | (intro x h0 h1 h2; exact hS x h1 h2) | (intro x h0 h1 h2; have h3 : _ = _ := h2; subst h3; exact hSR h1.1) | (intro x h1 h2; have h3 : _ = _ := h2; subst h3; assumption) | (intro x h1 h2; have h3 : _ = _ := h2; exfalso; omega) | (intro b h1 h2 h3; have h4 : _ = _ := h3; (try dsimp only at h2); exfalso; omega) | (intro h1; have h2 : _ = _ := h1; exfalso; omega) | (intros; exfalso; (try dsimp only at *); omega) | (intro b h1 h2 h3; exfalso; have h4 := h3.2; (try dsimp only at *); omega) | (intro h1; exfalso; have h4 := h1.2; (try dsimp only at *); omega) | (intro x h1 h2; exfalso; have h4 := h2.2; (try dsimp only at *); omega) | (intro x h1 h2; exact h2.1) | (intro x h1 h2; rcases h2.1 with h3 | h3; exact h3; exfalso; omega) | (intro x h1 h2; rcases h2 with h3 | h3; exact h3; exfalso; omega))
          replace hB := hB.chg gk (by first | (intro x h1 h2; exact h2) | (intro x h0 h1 h2; exact hS x h1 h2) | (intro x h0 h1 h2; have h3 : _ = _ := h2; subst h3; exact hSR h1.1) | (intro x h1 h2; have h3 : _ = _ := h2; subst h3; assumption) | (intro x h1 h2; have h3 : _ = _ := h2; exfalso; omega) | (intro b h1 h2 h3; have h4 : _ = _ := h3; (try dsimp only at h2); exfalso; omega) | (intro h1; have h2 : _ = _ := h1; exfalso; omega) | (intros; exfalso; (try dsimp only at *); omega) | (intro b h1 h2 h3; exfalso; have h4 := h3.2; (try dsimp only at *); omega) | (intro h1; exfalso; have h4 := h1.2; (try dsimp only at *); omega) | (intro x h1 h2; exfalso; have h4 := h2.2; (try dsimp only at *); omega) | (intro x h1 h2; exact h2.1) | (intro x h1 h2; rcases h2.1 with h3 | h3; exact h3; exfalso; omega) | (intro x h1 h2; rcases h2 with h3 | h3; exact h3; exfalso; omega))
          replace hd_2 := hd_2.chg gk (by first | (intro x h1 h2; exact h2) | (intro x h0 h1 h2; exact hS x h1 h2) | (intro x h0 h1 h2; have h3 : _ = _ := h2; subst h3; exact hSR h1.1) | (intro x h1 h2; have h3 : _ = _ := h2; subst h3; assumption) | (intro x h1 h2; have h3 : _ = _ := h2; exfalso; omega) | (intro b h1 h2 h3; have h4 : _ = _ := h3; (try dsimp only at h2); exfalso; omega) | (intro h1; have h2 : _ = _ := h1; exfalso; omega) | (intros; exfalso; (try dsimp only at *); omega) | (intro b h1 h2 h3; exfalso; have h4 := h3.2; (try dsimp only at *); omega) | (intro h1; exfalso; have h4 := h1.2; (try dsimp only at *); omega) | (intro x h1 h2; exfalso; have h4 := h2.2; (try dsimp only at *); omega) | (intro x h1 h2; exact h2.1) | (intro x h1 h2; rcases h2.1 with h3 | h3; exact h3; exfalso; omega) | (intro x h1 h2; rcases h2 with h3 | h3; exact h3; exfalso; omega))
          refine WL.nil ?_
          refine WX.one ⟨hd_2, ?_⟩
          refine ⟨?_, trivial⟩
          refine DT.step [(46, _), (44, _)] rfl ⟨rfl, rfl, trivial⟩ rfl (fun wq_18 kq_18 => ?_)
          have zs_kq_18 := kq_18.size
          replace hw := hw.pure kq_18
          replace hB := hB.pure kq_18
          replace hd_2 := hd_2.pure kq_18
          replace hI9 := hI9.pure kq_18
          refine WL.store Try.sizeOf64 hB rfl rfl rfl rfl ?_
          intro w_19 hs_19 hn_19 k_19
          have zs_k_19 := k_19.size
          replace hw := hw.chg k_19 (by first | (intro x h1 h2; exact h2) | (intro x h0 h1 h2; exact hS x h1 h2) | (intro x h0 h1 h2; have h3 : _ = _ := h2; subst h3; exact hSR h1.1) | (intro x h1 h2; have h3 : _ = _ := h2; subst h3; assumption) | (intro x h1 h2; have h3 : _ = _ := h2; exfalso; omega) | (intro b h1 h2 h3; have h4 : _ = _ := h3; (try dsimp only at h2); exfalso; omega) | (intro h1; have h2 : _ = _ := h1; exfalso; omega) | (intros; exfalso; (try dsimp only at *); omega) | (intro b h1 h2 h3; exfalso; have h4 := h3.2; (try dsimp only at *); omega) | (intro h1; exfalso; have h4 := h1.2; (try dsimp only at *); omega) | (intro x h1 h2; exfalso; have h4 := h2.2; (try dsimp only at *); omega) | (intro x h1 h2; exact h2.1) | (intro x h1 h2; rcases h2.1 with h3 | h3; exact h3; exfalso; omega) | (intro x h1 h2; rcases h2 with h3 | h3; exact h3; exfalso; omega))
          replace hd_2 := hd_2.chg k_19 (by first | (intro x h1 h2; exact h2) | (intro x h0 h1 h2; exact hS x h1 h2) | (intro x h0 h1 h2; have h3 : _ = _ := h2; subst h3; exact hSR h1.1) | (intro x h1 h2; have h3 : _ = _ := h2; subst h3; assumption) | (intro x h1 h2; have h3 : _ = _ := h2; exfalso; omega) | (intro b h1 h2 h3; have h4 : _ = _ := h3; (try dsimp only at h2); exfalso; omega) | (intro h1; have h2 : _ = _ := h1; exfalso; omega) | (intros; exfalso; (try dsimp only at *); omega) | (intro b h1 h2 h3; exfalso; have h4 := h3.2; (try dsimp only at *); omega) | (intro h1; exfalso; have h4 := h1.2; (try dsimp only at *); omega) | (intro x h1 h2; exfalso; have h4 := h2.2; (try dsimp only at *); omega) | (intro x h1 h2; exact h2.1) | (intro x h1 h2; rcases h2.1 with h3 | h3; exact h3; exfalso; omega) | (intro x h1 h2; rcases h2 with h3 | h3; exact h3; exfalso; omega))
          replace hI9 := hI9.chg k_19 (by first | (intro x h1 h2; exact h2) | (intro x h0 h1 h2; exact hS x h1 h2) | (intro x h0 h1 h2; have h3 : _ = _ := h2; subst h3; exact hSR h1.1) | (intro x h1 h2; have h3 : _ = _ := h2; subst h3; assumption) | (intro x h1 h2; have h3 : _ = _ := h2; exfalso; omega) | (intro b h1 h2 h3; have h4 : _ = _ := h3; (try dsimp only at h2); exfalso; omega) | (intro h1; have h2 : _ = _ := h1; exfalso; omega) | (intros; exfalso; (try dsimp only at *); omega) | (intro b h1 h2 h3; exfalso; have h4 := h3.2; (try dsimp only at *); omega) | (intro h1; exfalso; have h4 := h1.2; (try dsimp only at *); omega) | (intro x h1 h2; exfalso; have h4 := h2.2; (try dsimp only at *); omega) | (intro x h1 h2; exact h2.1) | (intro x h1 h2; rcases h2.1 with h3 | h3; exact h3; exfalso; omega) | (intro x h1 h2; rcases h2 with h3 | h3; exact h3; exfalso; omega))
          replace hB := hn_19
          refine WL.nil ?_
          refine WX.one0 (v := undef) ⟨hd_2, ?_⟩
          refine DT.done (fun we_20 ke_20 => ?_) _
          have zs_ke_20 := ke_20.size
          replace hw := hw.pure ke_20
          replace hB := hB.pure ke_20
          replace hd_2 := hd_2.pure ke_20
          replace hI9 := hI9.pure ke_20
          rotate_left
          refine DT.step [(42, _)] rfl ⟨rfl, trivial⟩ rfl (fun wq_15 kq_15 => ?_)
          have zs_kq_15 := kq_15.size
          replace hb := hb.pure kq_15
          replace hw := hw.pure kq_15
          replace hB := hB.pure kq_15
          replace hI := hI.pure kq_15
          replace hd_2 := hd_2.pure kq_15
          replace hq := hq.pure kq_15
          refine WL.build (e := ewr) [((d, a), ⟨some ⟨gq, 0, none⟩, cq, b⟩)] Try.underlying64 Try.sizeOf72 Try.zeroValue72 rfl rfl rfl (by first | (simp [Value.cells]; done) | (simp [Value.cells] <;> rfl) | (simp [Value.cells, eb, ei, es, ebool, e32, e64]; done)) (by decide) rfl ?_
          intro a_b43 w_b43 b43 l_b43 z_b43 k_b43
          have zs_k_b43 := k_b43.size
          replace hb := hb.pure k_b43
          replace hw := hw.pure k_b43
          replace hB := hB.pure k_b43
          replace hI := hI.pure k_b43
          replace hd_2 := hd_2.pure k_b43
          replace hq := hq.pure k_b43
          refine WL.nil ?_
          refine WX.one ⟨hd_2, ?_⟩
          refine ⟨?_, trivial, trivial, trivial⟩
          refine DT.step [(35, _)] rfl ⟨rfl, trivial⟩ rfl (fun wq_16 kq_16 => ?_)
          have zs_kq_16 := kq_16.size
          replace hb := hb.pure kq_16
          replace hw := hw.pure kq_16
          replace hB := hB.pure kq_16
          replace hI := hI.pure kq_16
          replace hd_2 := hd_2.pure kq_16
          replace hq := hq.pure kq_16
          replace b43 := b43.pure kq_16
          refine WL.loadB Try.isAgg64 hB rfl rfl rfl (?_)
          refine WL.nil ?_
          refine WX.one ⟨hd_2, ?_⟩
          refine ⟨?_, trivial, trivial⟩
          refine DT.step [(36, _), (43, _)] rfl ⟨rfl, rfl, trivial⟩ rfl (fun wq_17 kq_17 => ?_)
          have zs_kq_17 := kq_17.size
          replace hb := hb.pure kq_17
          replace hw := hw.pure kq_17
          replace hB := hB.pure kq_17
          replace hI := hI.pure kq_17
          replace hd_2 := hd_2.pure kq_17
          replace hq := hq.pure kq_17
          replace b43 := b43.pure kq_17
          refine WL.append (e := ewr) info_72 rfl Try.underlying64 rfl rfl hI.waits (b43.rsl.src Try.underlying64) (by constructor <;> (simp only [List.length_cons, List.length_nil]; omega)) (fun x hx => ⟨.inr (by omega), by omega⟩) rfl ?_
          intro ao9 c9 w9 hb9 gg9 n9
          have hq9 : Row (fun x => (A x ∨ w.heap.size ≤ x) ∧ x ≠ R) _ 5 eb (some ⟨gq, 0, none⟩) cq b := hq.mono (fun x hx => ⟨.inr (by omega), by omega⟩)
          have hI9 := hI.setWaits hb9 gg9.chg (fun x hx => hx.1) (fun p hp => by
            rcases List.mem_append.1 hp with h3 | h3
            ·
              exact .inl ⟨p, h3, rfl⟩
            ·
              simp at h3
              right
              rw [h3]
              exact hq9)
          have gk : Chg (fun x => (A x ∨ w.heap.size ≤ x) ∧ x ≠ R) _ w9 := gg9.chg.mono (fun x _ hx => hx.2)
          have zs_gk := gk.size
          replace hw := hw.chg gk (by first | (intro x h1 h2; exact h2) | (intro x h0 h1 h2; exact hS x h1 h2) | (intro x h0 h1 h2; have h3 : _ = _ := h2; subst h3; exact hSR h1.1) | (intro x h1 h2; have h3 : _ = _ := h2; subst h3; assumption) | (intro x h1 h2; have h3 : _ = _ := h2; exfalso; omega) | (intro b h1 h2 h3; have h4 : _ = _ := h3; (try dsimp only at h2); exfalso; omega) | (intro h1; have h2 : _ = _ := h1; exfalso; omega) | (intros; exfalso; (try dsimp only at *); omega) | (intro b h1 h2 h3; exfalso; have h4 := h3.2; (try dsimp only at *); omega) | (intro h1; exfalso; have h4 := h1.2; (try dsimp only at *); omega) | (intro x h1 h2; exfalso; have h4 := h2.2; (try dsimp only at *); omega) | (intro x h1 h2; exact h2.1) | (intro x h1 h2; rcases h2.1 with h3 | h3; exact h3; exfalso; omega) | (intro x h1 h2; rcases h2 with h3 | h3; exact h3; exfalso; omega))
          replace hB := hB.chg gk (by first | (intro x h1 h2; exact h2) | (intro x h0 h1 h2; exact hS x h1 h2) | (intro x h0 h1 h2; have h3 : _ = _ := h2; subst h3; exact hSR h1.1) | (intro x h1 h2; have h3 : _ = _ := h2; subst h3; assumption) | (intro x h1 h2; have h3 : _ = _ := h2; exfalso; omega) | (intro b h1 h2 h3; have h4 : _ = _ := h3; (try dsimp only at h2); exfalso; omega) | (intro h1; have h2 : _ = _ := h1; exfalso; omega) | (intros; exfalso; (try dsimp only at *); omega) | (intro b h1 h2 h3; exfalso; have h4 := h3.2; (try dsimp only at *); omega) | (intro h1; exfalso; have h4 := h1.2; (try dsimp only at *); omega) | (intro x h1 h2; exfalso; have h4 := h2.2; (try dsimp only at *); omega) | (intro x h1 h2; exact h2.1) | (intro x h1 h2; rcases h2.1 with h3 | h3; exact h3; exfalso; omega) | (intro x h1 h2; rcases h2 with h3 | h3; exact h3; exfalso; omega))
          replace hd_2 := hd_2.chg gk (by first | (intro x h1 h2; exact h2) | (intro x h0 h1 h2; exact hS x h1 h2) | (intro x h0 h1 h2; have h3 : _ = _ := h2; subst h3; exact hSR h1.1) | (intro x h1 h2; have h3 : _ = _ := h2; subst h3; assumption) | (intro x h1 h2; have h3 : _ = _ := h2; exfalso; omega) | (intro b h1 h2 h3; have h4 : _ = _ := h3; (try dsimp only at h2); exfalso; omega) | (intro h1; have h2 : _ = _ := h1; exfalso; omega) | (intros; exfalso; (try dsimp only at *); omega) | (intro b h1 h2 h3; exfalso; have h4 := h3.2; (try dsimp only at *); omega) | (intro h1; exfalso; have h4 := h1.2; (try dsimp only at *); omega) | (intro x h1 h2; exfalso; have h4 := h2.2; (try dsimp only at *); omega) | (intro x h1 h2; exact h2.1) | (intro x h1 h2; rcases h2.1 with h3 | h3; exact h3; exfalso; omega) | (intro x h1 h2; rcases h2 with h3 | h3; exact h3; exfalso; omega))
          refine WL.nil ?_
          refine WX.one ⟨hd_2, ?_⟩
          refine ⟨?_, trivial⟩
          refine DT.step [(46, _), (44, _)] rfl ⟨rfl, rfl, trivial⟩ rfl (fun wq_18 kq_18 => ?_)
          have zs_kq_18 := kq_18.size
          replace hw := hw.pure kq_18
          replace hB := hB.pure kq_18
          replace hd_2 := hd_2.pure kq_18
          replace hI9 := hI9.pure kq_18
          refine WL.store Try.sizeOf64 hB rfl rfl rfl rfl ?_
          intro w_19 hs_19 hn_19 k_19
          have zs_k_19 := k_19.size
          replace hw := hw.chg k_19 (by first | (intro x h1 h2; exact h2) | (intro x h0 h1 h2; exact hS x h1 h2) | (intro x h0 h1 h2; have h3 : _ = _ := h2; subst h3; exact hSR h1.1) | (intro x h1 h2; have h3 : _ = _ := h2; subst h3; assumption) | (intro x h1 h2; have h3 : _ = _ := h2; exfalso; omega) | (intro b h1 h2 h3; have h4 : _ = _ := h3; (try dsimp only at h2); exfalso; omega) | (intro h1; have h2 : _ = _ := h1; exfalso; omega) | (intros; exfalso; (try dsimp only at *); omega) | (intro b h1 h2 h3; exfalso; have h4 := h3.2; (try dsimp only at *); omega) | (intro h1; exfalso; have h4 := h1.2; (try dsimp only at *); omega) | (intro x h1 h2; exfalso; have h4 := h2.2; (try dsimp only at *); omega) | (intro x h1 h2; exact h2.1) | (intro x h1 h2; rcases h2.1 with h3 | h3; exact h3; exfalso; omega) | (intro x h1 h2; rcases h2 with h3 | h3; exact h3; exfalso; omega))
          replace hd_2 := hd_2.chg k_19 (by first | (intro x h1 h2; exact h2) | (intro x h0 h1 h2; exact hS x h1 h2) | (intro x h0 h1 h2; have h3 : _ = _ := h2; subst h3; exact hSR h1.1) | (intro x h1 h2; have h3 : _ = _ := h2; subst h3; assumption) | (intro x h1 h2; have h3 : _ = _ := h2; exfalso; omega) | (intro b h1 h2 h3; have h4 : _ = _ := h3; (try dsimp only at h2); exfalso; omega) | (intro h1; have h2 : _ = _ := h1; exfalso; omega) | (intros; exfalso; (try dsimp only at *); omega) | (intro b h1 h2 h3; exfalso; have h4 := h3.2; (try dsimp only at *); omega) | (intro h1; exfalso; have h4 := h1.2; (try dsimp only at *); omega) | (intro x h1 h2; exfalso; have h4 := h2.2; (try dsimp only at *); omega) | (intro x h1 h2; exact h2.1) | (intro x h1 h2; rcases h2.1 with h3 | h3; exact h3; exfalso; omega) | (intro x h1 h2; rcases h2 with h3 | h3; exact h3; exfalso; omega))
          replace hI9 := hI9.chg k_19 (by first | (intro x h1 h2; exact h2) | (intro x h0 h1 h2; exact hS x h1 h2) | (intro x h0 h1 h2; have h3 : _ = _ := h2; subst h3; exact hSR h1.1) | (intro x h1 h2; have h3 : _ = _ := h2; subst h3; assumption) | (intro x h1 h2; have h3 : _ = _ := h2; exfalso; omega) | (intro b h1 h2 h3; have h4 : _ = _ := h3; (try dsimp only at h2); exfalso; omega) | (intro h1; have h2 : _ = _ := h1; exfalso; omega) | (intros; exfalso; (try dsimp only at *); omega) | (intro b h1 h2 h3; exfalso; have h4 := h3.2; (try dsimp only at *); omega) | (intro h1; exfalso; have h4 := h1.2; (try dsimp only at *); omega) | (intro x h1 h2; exfalso; have h4 := h2.2; (try dsimp only at *); omega) | (intro x h1 h2; exact h2.1) | (intro x h1 h2; rcases h2.1 with h3 | h3; exact h3; exfalso; omega) | (intro x h1 h2; rcases h2 with h3 | h3; exact h3; exfalso; omega))
          replace hB := hn_19
          refine WL.nil ?_
          refine WX.one0 (v := undef) ⟨hd_2, ?_⟩
          refine DT.done (fun we_20 ke_20 => ?_) _
          have zs_ke_20 := ke_20.size
          replace hw := hw.pure ke_20
          replace hB := hB.pure ke_20
          replace hd_2 := hd_2.pure ke_20
          replace hI9 := hI9.pure ke_20
          rotate_left
          all_goals
            refine WX.then_normal (WC.seq (WC.region (WL.assign rfl rfl (WL.nil (WX.then_normal (WC.ret (?_)))))))
            refine WX.ret1 (.inl rfl) Try.results13 rfl ?_
            first
              | (have hh : (b.length : Int) ≠ 128 := h18
                 have hh2 : b.length ≠ 128 := by omega
                 exact ⟨_, rfl, by simp [writeE, hh2], by rw [show writeS s d a b = s from by simp [writeS, writeE, hh2]]; exact h.mono (fun x hx => .inl hx), hw⟩)
              | (have hh : ¬ inS s d a := h12
                 exact ⟨_, rfl, by simp [writeE, h12], by rw [show writeS s d a b = s from by simp [writeS, writeE, h12]]; exact h.mono (fun x hx => .inl hx), hw⟩)
              | (have hh : goneS s d = true := hg
                 have hh2 : b.length = 128 := by omega
                 exact ⟨_, rfl, by simp [writeE, h12, hh2, hg], by rw [show writeS s d a b = s from by simp [writeS, writeE, h12, hh2, hg]]; exact h.mono (fun x hx => .inl hx), hw⟩)
              | (have hh : offS s = true := ho
                 have hh2 : b.length = 128 := by omega
                 exact ⟨_, rfl, by simp [writeE, h12, hh2, hg, ho], by rw [show writeS s d a b = spendS s from by simp [writeS, writeE, h12, hh2, hg, ho]]; exact h2.mono (fun x hx => .inl hx), hw⟩)
              | (have hh2 : b.length = 128 := by omega
                 have e0 : writeE s d a b.length = 0 := by simp [writeE, h12, hh2, hg, ho]
                 refine ⟨_, rfl, by rw [e0], ⟨aR2, hwok, m, ga, gc, ao9, c9, ws ++ [((d, a), ⟨some ⟨gq, 0, none⟩, cq, b⟩)], ls, Eq.mp (congrArg (Blk _ R 66) ?_) hB, ?_, ?_, ?_⟩, hw⟩
                 ·
                   simp [writeS, e0]
                 ·
                   simp only [writeS, e0, if_true]
                   exact hI9.mono (fun x hx => hx.1)
                 ·
                   simp only [writeS, e0, if_true]
                   exact hls
                 ·
                   simp only [writeS, e0, if_true]
                   rw [spendS_waits] at hws
                   rw [hws]
                   simp [xsm])
        ·
          refine WL.not rfl rfl (WL.assign rfl rfl (WL.nil (WX.then_normal (WC.cond_true rfl (WC.seq (WC.region (WL.assign rfl rfl (?_))))))))
          refine WL.nil (WX.then_normal (WC.ret (WX.block_ret (WX.then_ret (?_)))))
          refine WX.ret1 (.inl rfl) Try.results13 rfl ?_
          first
            | (have hh : (b.length : Int) ≠ 128 := h18
               have hh2 : b.length ≠ 128 := by omega
               exact ⟨_, rfl, by simp [writeE, hh2], by rw [show writeS s d a b = s from by simp [writeS, writeE, hh2]]; exact h.mono (fun x hx => .inl hx), hw⟩)
            | (have hh : ¬ inS s d a := h12
               exact ⟨_, rfl, by simp [writeE, h12], by rw [show writeS s d a b = s from by simp [writeS, writeE, h12]]; exact h.mono (fun x hx => .inl hx), hw⟩)
            | (have hh : goneS s d = true := hg
               have hh2 : b.length = 128 := by omega
               exact ⟨_, rfl, by simp [writeE, h12, hh2, hg], by rw [show writeS s d a b = s from by simp [writeS, writeE, h12, hh2, hg]]; exact h.mono (fun x hx => .inl hx), hw⟩)
            | (have hh : offS s = true := ho
               have hh2 : b.length = 128 := by omega
               exact ⟨_, rfl, by simp [writeE, h12, hh2, hg, ho], by rw [show writeS s d a b = spendS s from by simp [writeS, writeE, h12, hh2, hg, ho]]; exact h2.mono (fun x hx => .inl hx), hw⟩)
            | (have hh2 : b.length = 128 := by omega
               have e0 : writeE s d a b.length = 0 := by simp [writeE, h12, hh2, hg, ho]
               refine ⟨_, rfl, by rw [e0], ⟨aR2, hwok, m, ga, gc, ao9, c9, ws ++ [((d, a), ⟨some ⟨gq, 0, none⟩, cq, b⟩)], ls, Eq.mp (congrArg (Blk _ R 66) ?_) hB, ?_, ?_, ?_⟩, hw⟩
               ·
                 simp [writeS, e0]
               ·
                 simp only [writeS, e0, if_true]
                 exact hI9.mono (fun x hx => hx.1)
               ·
                 simp only [writeS, e0, if_true]
                 exact hls
               ·
                 simp only [writeS, e0, if_true]
                 rw [spendS_waits] at hws
                 rw [hws]
                 simp [xsm])
      ·
        refine WL.assign rfl rfl (WL.nil (WX.then_normal (WC.cond_true rfl (WC.seq (WC.region (WL.assign rfl rfl (WL.nil (?_))))))))
        refine WX.then_normal (WC.ret (WX.block_ret (WX.then_ret (?_))))
        refine WX.ret1 (.inl rfl) Try.results13 rfl ?_
        first
          | (have hh : (b.length : Int) ≠ 128 := h18
             have hh2 : b.length ≠ 128 := by omega
             exact ⟨_, rfl, by simp [writeE, hh2], by rw [show writeS s d a b = s from by simp [writeS, writeE, hh2]]; exact h.mono (fun x hx => .inl hx), hw⟩)
          | (have hh : ¬ inS s d a := h12
             exact ⟨_, rfl, by simp [writeE, h12], by rw [show writeS s d a b = s from by simp [writeS, writeE, h12]]; exact h.mono (fun x hx => .inl hx), hw⟩)
          | (have hh : goneS s d = true := hg
             have hh2 : b.length = 128 := by omega
             exact ⟨_, rfl, by simp [writeE, h12, hh2, hg], by rw [show writeS s d a b = s from by simp [writeS, writeE, h12, hh2, hg]]; exact h.mono (fun x hx => .inl hx), hw⟩)
          | (have hh : offS s = true := ho
             have hh2 : b.length = 128 := by omega
             exact ⟨_, rfl, by simp [writeE, h12, hh2, hg, ho], by rw [show writeS s d a b = spendS s from by simp [writeS, writeE, h12, hh2, hg, ho]]; exact h2.mono (fun x hx => .inl hx), hw⟩)
          | (have hh2 : b.length = 128 := by omega
             have e0 : writeE s d a b.length = 0 := by simp [writeE, h12, hh2, hg, ho]
             refine ⟨_, rfl, by rw [e0], ⟨aR2, hwok, m, ga, gc, ao9, c9, ws ++ [((d, a), ⟨some ⟨gq, 0, none⟩, cq, b⟩)], ls, Eq.mp (congrArg (Blk _ R 66) ?_) hB, ?_, ?_, ?_⟩, hw⟩
             ·
               simp [writeS, e0]
             ·
               simp only [writeS, e0, if_true]
               exact hI9.mono (fun x hx => hx.1)
             ·
               simp only [writeS, e0, if_true]
               exact hls
             ·
               simp only [writeS, e0, if_true]
               rw [spendS_waits] at hws
               rw [hws]
               simp [xsm])
  ·
    rw [show decide (0 ≤ d ∧ d < (s.dn : Int) ∧ 0 ≤ a ∧ a < (s.sn : Int)) = false from decide_eq_false h12]
    refine WL.not rfl rfl (WL.move rfl rfl (WL.pass rfl rfl rfl rfl (WL.pass rfl rfl rfl rfl (WL.pass rfl rfl rfl rfl (WL.pickT rfl rfl rfl (WL.assign rfl rfl (WL.nil (?_))))))))
    refine WX.then_normal (WC.cond_true rfl (WC.seq (WC.region (WL.assign rfl rfl (WL.nil (WX.then_normal (WC.ret (?_))))))))
    refine WX.block_ret (WX.then_ret (?_))
    refine WX.ret1 (.inl rfl) Try.results13 rfl ?_
    first
      | (have hh : (b.length : Int) ≠ 128 := h18
         have hh2 : b.length ≠ 128 := by omega
         exact ⟨_, rfl, by simp [writeE, hh2], by rw [show writeS s d a b = s from by simp [writeS, writeE, hh2]]; exact h.mono (fun x hx => .inl hx), hw⟩)
      | (have hh : ¬ inS s d a := h12
         exact ⟨_, rfl, by simp [writeE, h12], by rw [show writeS s d a b = s from by simp [writeS, writeE, h12]]; exact h.mono (fun x hx => .inl hx), hw⟩)
      | (have hh : goneS s d = true := hg
         have hh2 : b.length = 128 := by omega
         exact ⟨_, rfl, by simp [writeE, h12, hh2, hg], by rw [show writeS s d a b = s from by simp [writeS, writeE, h12, hh2, hg]]; exact h.mono (fun x hx => .inl hx), hw⟩)
      | (have hh : offS s = true := ho
         have hh2 : b.length = 128 := by omega
         exact ⟨_, rfl, by simp [writeE, h12, hh2, hg, ho], by rw [show writeS s d a b = spendS s from by simp [writeS, writeE, h12, hh2, hg, ho]]; exact h2.mono (fun x hx => .inl hx), hw⟩)
      | (have hh2 : b.length = 128 := by omega
         have e0 : writeE s d a b.length = 0 := by simp [writeE, h12, hh2, hg, ho]
         refine ⟨_, rfl, by rw [e0], ⟨aR2, hwok, m, ga, gc, ao9, c9, ws ++ [((d, a), ⟨some ⟨gq, 0, none⟩, cq, b⟩)], ls, Eq.mp (congrArg (Blk _ R 66) ?_) hB, ?_, ?_, ?_⟩, hw⟩
         ·
           simp [writeS, e0]
         ·
           simp only [writeS, e0, if_true]
           exact hI9.mono (fun x hx => hx.1)
         ·
           simp only [writeS, e0, if_true]
           exact hls
         ·
           simp only [writeS, e0, if_true]
           rw [spendS_waits] at hws
           rw [hws]
           simp [xsm])
end Go.Proofs.Ytdjlfbadcijjaaa
