import Derived.Test.YtjeldcjchipdgaaDoorQLabelCrashes8
namespace Go.Proofs.YtjeldcjchipdgaaDoor
open Go.RowKit Go.HL
set_option maxRecDepth 100000

theorem n_and1 {P : Program} (t : TypeId) (w : World) (a : Int) : (binOp .and t (vi a) (vi 1)).run P w = .ok (vi (a % 2)) w := by
  have h1 : IntKind.i64.wrap ((BitVec.ofInt 64 a &&& BitVec.ofInt 64 1).toNat : Int) = a % 2 := by
    have e2 : (BitVec.ofInt 64 1).toNat = 1 := by decide
    rw [BitVec.toNat_and, e2, Nat.and_one_is_mod, BitVec.toNat_ofInt]
    rw [wrap_i64 (by omega)]
    omega
  rw [← h1]
  simp only [binOp, Op.intBits, IntKind.bits]
  simp only [ne_eq, not_true_eq_false, if_false, Sem.run_pure]
  rfl
/-! the power goes off later -/
/-! the power goes off and comes back -/
def keep (ps : List Int) (i : Nat) : Bool := match ps[i]? with
  | some x => decide (x % 2 = 1)
  | none => false
def crashS (s : RA) (ps : List Int) : RA := { s with last := puts (keep ps) s.waits s.last s.waits.length, waits := [], off := false, armed := false }
theorem crashS_ok {s : RA} (h : s.ok) (ps : List Int) : (crashS s ps).ok := by
  refine ⟨h.dn, h.sn, h.gl, fun p hp => ?_, fun p hp => ?_, ⟨fun h1 => ?_, h.lf.2⟩, puts_nodup h.nd _⟩
  · rcases puts_mem hp with h2 | h2
    · exact h.ll p h2
    · exact h.lw p h2
  · cases hp
  · cases h1
theorem Crash_calls {A S : Nat → Prop} {w : World} {R : Nat} {s : RA} (h : RK A w R s) {ao : Option Addr} {c : Nat} {ps : List Int} (hp : RSl S w ei ao c ps) (hS : ∀ x, S x → A x → False) :
    Calls Tryd.prog 21 [ptr R, .slice ao ps.length c].toArray w (Ret fun v w' => v = .tuple #[] ∧ RK A w' R (crashS s ps) ∧ Chg A w w') := by
  have aR := h.aR
  have hok := crashS_ok h.ok ps
  obtain ⟨m, ga, gc, wa, wc, ws, ls, hB, hI, hls, hws⟩ := h.old.ex
  have am : A m := hI.sm.1
  replace hI := hI.open hB
  replace hp := hp.lt
  have hmR : m ≠ R := hI.sm.2
  have lR := hB.lt
  have lm := hI.map.lt
  have hcap := hI.waits.own.cap
  have hwl : ws.length ≤ 9223372036854775807 := by
    rcases hI.waits.own.2.2 with ⟨_, h⟩ | ⟨_, _, _, _, _, _, h, _⟩
    · omega
    · simp only [maxLen] at h; omega
  have hw := Chg.refl A w
  have z0 : w.heap.size ≤ w.heap.size := Nat.le_refl _
  have hSm : ¬ S m := fun hs => hS m hs am
  have hSR : ¬ S R := fun hs => hS R hs aR
  refine Calls.of_WC Tryd.func21 rfl Tryd.ntmps21 (by simp) ?_
  refine WC.seq (WC.seq (WC.region (WL.move rfl rfl (?_))))
  refine WL.ptrNil Tryd.underlying41 rfl rfl rfl ?_
  refine WL.nil (WX.then_normal (WC.cond_false rfl (WC.skip (WX.then_normal (WC.seq (WC.seq (WC.region (?_))))))))
  refine WL.move rfl rfl (WL.nilCheck rfl rfl (WL.fieldAddr (fld_86_4) rfl rfl (WL.loadB Tryd.isAgg84 hB rfl rfl rfl (WL.len Tryd.underlying84 rfl rfl (WL.move rfl rfl (WL.nil (WX.then_normal (?_))))))))
  refine WC.block (?_)
  refine WC.loop (σ := Nat) (fun i => [(0, ptr R), (1, .slice ao ps.length c), (11, .slice wa ws.length wc), (12, vi ws.length), (13, vi (i : Int))]) (fun i w' => i ≤ ws.length ∧ Blk w' R 86 (rcells s m ga gc wa wc ws.length) ∧ RI (fun b => (A b ∧ b < w.heap.size) ∧ b ≠ R) w' m ga gc wa wc s.gone ws (puts (keep ps) ws ls i) ∧ Chg A w w' ∧ w.heap.size ≤ w'.heap.size ∧ RSl (fun b => S b ∧ b < w.heap.size) w' ei ao c ps) (fun i => ws.length - i) 0 ⟨rfl, rfl, rfl, rfl, rfl, trivial⟩ ⟨Nat.zero_le _, hB, hI, hw, Nat.le_refl _, hp⟩ ?_
  clear hB hI hw hp
  rintro i w1 ⟨hi, hB, hI, hw, z1, hp⟩
  refine WC.seq (WC.region (?_))
  refine WL.lss? rfl rfl rfl (fun h14 => ?_) (fun h14 => ?_)
  ·
    refine WL.nil (WX.then_normal (WC.seq (WC.cond_true rfl (WC.skip (WX.then_normal (WC.seq (WC.block (?_))))))))
    refine WC.seq (WC.region (WL.move rfl rfl (?_)))
    have hi2 : i < ws.length := by omega
    have hx : ws[i]? = some ws[i] := List.getElem?_eq_getElem hi2
    obtain ⟨x, ex⟩ : ∃ x, x = ws[i] := ⟨_, rfl⟩
    rw [← ex] at hx
    refine WL.indexT (e := ewr) Tryd.underlying84 Tryd.sizeOf92 hI.waits.rsl rfl rfl ⟨hx, rfl⟩ rfl ?_
    intro bb oo hcc
    refine WL.loads _ Tryd.isAgg92 Tryd.sizeOf92 rfl hcc rfl rfl (?_)
    refine WL.alloc Tryd.zeroValue92 rfl ?_
    intro g_1 w_1 hge_1 hlt_1 hb_1 k_1
    have zs_k_1 := k_1.size
    replace hB := hB.pure k_1
    replace hI := hI.pure k_1
    replace hw := hw.pure k_1
    replace hp := hp.pure k_1
    refine WL.assign rfl rfl (?_)
    refine WL.stores Tryd.sizeOf92 hb_1 rfl rfl (by first | (simp; done) | (simp; omega) | rfl) (by first | exact Enc.one _ _ | (intro u hu; obtain ⟨x, _, rfl⟩ := List.mem_map.1 hu; rfl) | (simp [Value.oneCell']; done) | (simp [Value.oneCell', Value.cells]; done)) (by first | (simp; done) | (simp; omega) | (simp [Value.cells]; done) | (simp [Value.cells]; omega) | exact Nat.le_of_ble_eq_true rfl) rfl ?_
    intro w_2 hs_2 hn_2 k_2
    have zs_k_2 := k_2.size
    replace hB := hB.chg k_2 (by first | (intro x h1 h2; exact h2) | (intro x h0 h1 h2; exact hS x h1 h2) | (intro x h0 h1 h2; have h3 : _ = _ := h2; subst h3; exact hSR h1.1) | (intro x h1 h2; have h3 : _ = _ := h2; subst h3; assumption) | (intro x h1 h2; have h3 : _ = _ := h2; exfalso; omega) | (intro b h1 h2 h3; have h4 : _ = _ := h3; (try dsimp only at h2); exfalso; omega) | (intro h1; have h2 : _ = _ := h1; exfalso; omega) | (intro h1; have h2 : _ ≤ _ := h1; exfalso; omega) | (intros; exfalso; (try dsimp only at *); omega) | (intro b h1 h2 h3; exfalso; have h4 := h3.2; (try dsimp only at *); omega) | (intro h1; exfalso; have h4 := h1.2; (try dsimp only at *); omega) | (intro x h1 h2; exfalso; have h4 := h2.2; (try dsimp only at *); omega) | (intro x h1 h2; exact ⟨_, rfl, h2⟩) | (intro x h1 h2; have h4 := h2.1; have h5 := h2.2; exfalso; omega) | (intro x h1 h2; exact h2.1) | (intro x h1 h2; rcases h2.1 with h3 | h3; exact h3; exfalso; omega) | (intro x h1 h2; rcases h2 with h3 | h3; exact h3; exfalso; omega))
    replace hI := hI.chg k_2 (by first | (intro x h1 h2; exact h2) | (intro x h0 h1 h2; exact hS x h1 h2) | (intro x h0 h1 h2; have h3 : _ = _ := h2; subst h3; exact hSR h1.1) | (intro x h1 h2; have h3 : _ = _ := h2; subst h3; assumption) | (intro x h1 h2; have h3 : _ = _ := h2; exfalso; omega) | (intro b h1 h2 h3; have h4 : _ = _ := h3; (try dsimp only at h2); exfalso; omega) | (intro h1; have h2 : _ = _ := h1; exfalso; omega) | (intro h1; have h2 : _ ≤ _ := h1; exfalso; omega) | (intros; exfalso; (try dsimp only at *); omega) | (intro b h1 h2 h3; exfalso; have h4 := h3.2; (try dsimp only at *); omega) | (intro h1; exfalso; have h4 := h1.2; (try dsimp only at *); omega) | (intro x h1 h2; exfalso; have h4 := h2.2; (try dsimp only at *); omega) | (intro x h1 h2; exact ⟨_, rfl, h2⟩) | (intro x h1 h2; have h4 := h2.1; have h5 := h2.2; exfalso; omega) | (intro x h1 h2; exact h2.1) | (intro x h1 h2; rcases h2.1 with h3 | h3; exact h3; exfalso; omega) | (intro x h1 h2; rcases h2 with h3 | h3; exact h3; exfalso; omega))
    replace hw := hw.chg k_2 (by first | (intro x h1 h2; exact h2) | (intro x h0 h1 h2; exact hS x h1 h2) | (intro x h0 h1 h2; have h3 : _ = _ := h2; subst h3; exact hSR h1.1) | (intro x h1 h2; have h3 : _ = _ := h2; subst h3; assumption) | (intro x h1 h2; have h3 : _ = _ := h2; exfalso; omega) | (intro b h1 h2 h3; have h4 : _ = _ := h3; (try dsimp only at h2); exfalso; omega) | (intro h1; have h2 : _ = _ := h1; exfalso; omega) | (intro h1; have h2 : _ ≤ _ := h1; exfalso; omega) | (intros; exfalso; (try dsimp only at *); omega) | (intro b h1 h2 h3; exfalso; have h4 := h3.2; (try dsimp only at *); omega) | (intro h1; exfalso; have h4 := h1.2; (try dsimp only at *); omega) | (intro x h1 h2; exfalso; have h4 := h2.2; (try dsimp only at *); omega) | (intro x h1 h2; exact ⟨_, rfl, h2⟩) | (intro x h1 h2; have h4 := h2.1; have h5 := h2.2; exfalso; omega) | (intro x h1 h2; exact h2.1) | (intro x h1 h2; rcases h2.1 with h3 | h3; exact h3; exfalso; omega) | (intro x h1 h2; rcases h2 with h3 | h3; exact h3; exfalso; omega))
    replace hp := hp.chg k_2 (by first | (intro x h1 h2; exact h2) | (intro x h0 h1 h2; exact hS x h1 h2) | (intro x h0 h1 h2; have h3 : _ = _ := h2; subst h3; exact hSR h1.1) | (intro x h1 h2; have h3 : _ = _ := h2; subst h3; assumption) | (intro x h1 h2; have h3 : _ = _ := h2; exfalso; omega) | (intro b h1 h2 h3; have h4 : _ = _ := h3; (try dsimp only at h2); exfalso; omega) | (intro h1; have h2 : _ = _ := h1; exfalso; omega) | (intro h1; have h2 : _ ≤ _ := h1; exfalso; omega) | (intros; exfalso; (try dsimp only at *); omega) | (intro b h1 h2 h3; exfalso; have h4 := h3.2; (try dsimp only at *); omega) | (intro h1; exfalso; have h4 := h1.2; (try dsimp only at *); omega) | (intro x h1 h2; exfalso; have h4 := h2.2; (try dsimp only at *); omega) | (intro x h1 h2; exact ⟨_, rfl, h2⟩) | (intro x h1 h2; have h4 := h2.1; have h5 := h2.2; exfalso; omega) | (intro x h1 h2; exact h2.1) | (intro x h1 h2; rcases h2.1 with h3 | h3; exact h3; exfalso; omega) | (intro x h1 h2; rcases h2 with h3 | h3; exact h3; exfalso; omega))
    replace hb_1 := hn_2
    refine WL.nil (WX.then_normal (WC.seq (WC.region (WL.move rfl rfl (WL.move rfl rfl (WL.len Tryd.underlying40 rfl rfl (?_)))))))
    refine WL.lss? rfl rfl rfl (fun h21 => ?_) (fun h21 => ?_)
    ·
      refine WL.move rfl rfl (WL.want rfl rfl rfl (WL.move rfl rfl (WL.want rfl rfl rfl (WL.move rfl rfl (WL.want rfl rfl rfl (?_))))))
      have hi3 : i < ps.length := by omega
      have hy : ps[i]? = some ps[i] := List.getElem?_eq_getElem hi3
      obtain ⟨y, ey⟩ : ∃ y, y = ps[i] := ⟨_, rfl⟩
      rw [← ey] at hy
      refine WL.indexT Tryd.underlying40 Tryd.sizeOf3 hp rfl rfl ⟨hy, rfl⟩ rfl ?_
      intro b_3 o_3 hc_3
      refine WL.want rfl rfl rfl (WL.load Tryd.isAgg3 rfl (hc_3 0 _ rfl) rfl (WL.want rfl rfl rfl (?_)))
      refine WL.num rfl rfl (n_and1 _ _ _) rfl ?_
      refine WL.want rfl rfl rfl (?_)
      refine WL.eql? rfl rfl rfl (fun h28 => ?_) (fun h28 => ?_)
      ·
        refine WL.pickT rfl rfl rfl (WL.nil (WX.then_normal (WC.cond_true rfl (?_))))
        have hb8 : Blk _ g_1 92 [vi x.1.1, vi x.1.2, vsl x.2] := hb_1
        refine WC.draw ((fun x => x = m)) [0, 1, 2, 3, 4, 5, 6, 7] [8] mixed rfl rfl (fun wd_4 kd_4 zd_4 => ?_)
        have zs_kd_4 := kd_4.size
        replace hB := hB.pure kd_4
        replace hI := hI.pure kd_4
        replace hw := hw.pure kd_4
        replace hp := hp.pure kd_4
        replace hb8 := hb8.pure kd_4
        apply DQ.step (E' := [(0, _)])
        case ho => rfl
        case hs => exact ⟨rfl, trivial⟩
        case hk => rfl
        case h1 =>
          intro wq_6 kq_6
          refine WL.move rfl rfl (?_)
          refine WL.nil ?_
          exact WX.one ⟨rfl, by first | exact Chg.refl _ _ | assumption⟩
        apply DQ.step (E' := [(30, _)])
        case ho => rfl
        case hs => exact ⟨rfl, trivial⟩
        case hk => rfl
        case h1 =>
          intro wq_7 kq_7
          refine WL.nilCheck rfl rfl (?_)
          refine WL.nil ?_
          exact WX.one ⟨rfl, by first | exact Chg.refl _ _ | assumption⟩
        apply DQ.step (E' := [(31, _)])
        case ho => rfl
        case hs => exact ⟨rfl, trivial⟩
        case hk => rfl
        case h1 =>
          intro wq_8 kq_8
          refine WL.fieldAddr (fld_86_2) rfl rfl (?_)
          refine WL.nil ?_
          exact WX.one ⟨rfl, by first | exact Chg.refl _ _ | assumption⟩
        apply DQ.step (E' := [(32, _)])
        case ho => rfl
        case hs => exact ⟨rfl, trivial⟩
        case hk => rfl
        case h1 =>
          intro wq_9 kq_9
          have zs_kq_9 := kq_9.size
          replace hB := hB.chg kq_9 (by first | (intro x h1 h2; exact h2) | (intro x h0 h1 h2; exact hS x h1 h2) | (intro x h0 h1 h2; have h3 : _ = _ := h2; subst h3; exact hSR h1.1) | (intro x h1 h2; have h3 : _ = _ := h2; subst h3; assumption) | (intro x h1 h2; have h3 : _ = _ := h2; exfalso; omega) | (intro b h1 h2 h3; have h4 : _ = _ := h3; (try dsimp only at h2); exfalso; omega) | (intro h1; have h2 : _ = _ := h1; exfalso; omega) | (intro h1; have h2 : _ ≤ _ := h1; exfalso; omega) | (intros; exfalso; (try dsimp only at *); omega) | (intro b h1 h2 h3; exfalso; have h4 := h3.2; (try dsimp only at *); omega) | (intro h1; exfalso; have h4 := h1.2; (try dsimp only at *); omega) | (intro x h1 h2; exfalso; have h4 := h2.2; (try dsimp only at *); omega) | (intro x h1 h2; exact ⟨_, rfl, h2⟩) | (intro x h1 h2; have h4 := h2.1; have h5 := h2.2; exfalso; omega) | (intro x h1 h2; exact h2.1) | (intro x h1 h2; rcases h2.1 with h3 | h3; exact h3; exfalso; omega) | (intro x h1 h2; rcases h2 with h3 | h3; exact h3; exfalso; omega))
          replace hw := hw.chg kq_9 (by first | (intro x h1 h2; exact h2) | (intro x h0 h1 h2; exact hS x h1 h2) | (intro x h0 h1 h2; have h3 : _ = _ := h2; subst h3; exact hSR h1.1) | (intro x h1 h2; have h3 : _ = _ := h2; subst h3; assumption) | (intro x h1 h2; have h3 : _ = _ := h2; exfalso; omega) | (intro b h1 h2 h3; have h4 : _ = _ := h3; (try dsimp only at h2); exfalso; omega) | (intro h1; have h2 : _ = _ := h1; exfalso; omega) | (intro h1; have h2 : _ ≤ _ := h1; exfalso; omega) | (intros; exfalso; (try dsimp only at *); omega) | (intro b h1 h2 h3; exfalso; have h4 := h3.2; (try dsimp only at *); omega) | (intro h1; exfalso; have h4 := h1.2; (try dsimp only at *); omega) | (intro x h1 h2; exfalso; have h4 := h2.2; (try dsimp only at *); omega) | (intro x h1 h2; exact ⟨_, rfl, h2⟩) | (intro x h1 h2; have h4 := h2.1; have h5 := h2.2; exfalso; omega) | (intro x h1 h2; exact h2.1) | (intro x h1 h2; rcases h2.1 with h3 | h3; exact h3; exfalso; omega) | (intro x h1 h2; rcases h2 with h3 | h3; exact h3; exfalso; omega))
          replace hb8 := hb8.chg kq_9 (by first | (intro x h1 h2; exact h2) | (intro x h0 h1 h2; exact hS x h1 h2) | (intro x h0 h1 h2; have h3 : _ = _ := h2; subst h3; exact hSR h1.1) | (intro x h1 h2; have h3 : _ = _ := h2; subst h3; assumption) | (intro x h1 h2; have h3 : _ = _ := h2; exfalso; omega) | (intro b h1 h2 h3; have h4 : _ = _ := h3; (try dsimp only at h2); exfalso; omega) | (intro h1; have h2 : _ = _ := h1; exfalso; omega) | (intro h1; have h2 : _ ≤ _ := h1; exfalso; omega) | (intros; exfalso; (try dsimp only at *); omega) | (intro b h1 h2 h3; exfalso; have h4 := h3.2; (try dsimp only at *); omega) | (intro h1; exfalso; have h4 := h1.2; (try dsimp only at *); omega) | (intro x h1 h2; exfalso; have h4 := h2.2; (try dsimp only at *); omega) | (intro x h1 h2; exact ⟨_, rfl, h2⟩) | (intro x h1 h2; have h4 := h2.1; have h5 := h2.2; exfalso; omega) | (intro x h1 h2; exact h2.1) | (intro x h1 h2; rcases h2.1 with h3 | h3; exact h3; exfalso; omega) | (intro x h1 h2; rcases h2 with h3 | h3; exact h3; exfalso; omega))
          refine WL.loadB Tryd.isAgg83 hB rfl rfl rfl (?_)
          refine WL.nil ?_
          exact WX.one ⟨rfl, by first | exact Chg.refl _ _ | assumption⟩
        apply DQ.step (E' := [(5, _)])
        case ho => rfl
        case hs => exact ⟨rfl, trivial⟩
        case hk => rfl
        case h1 =>
          intro wq_10 kq_10
          refine WL.fieldAddr (fld_92_0) rfl rfl (?_)
          refine WL.nil ?_
          exact WX.one ⟨rfl, by first | exact Chg.refl _ _ | assumption⟩
        apply DQ.step (E' := [(34, _)])
        case ho => rfl
        case hs => exact ⟨rfl, trivial⟩
        case hk => rfl
        case h1 =>
          intro wq_11 kq_11
          have zs_kq_11 := kq_11.size
          replace hB := hB.chg kq_11 (by first | (intro x h1 h2; exact h2) | (intro x h0 h1 h2; exact hS x h1 h2) | (intro x h0 h1 h2; have h3 : _ = _ := h2; subst h3; exact hSR h1.1) | (intro x h1 h2; have h3 : _ = _ := h2; subst h3; assumption) | (intro x h1 h2; have h3 : _ = _ := h2; exfalso; omega) | (intro b h1 h2 h3; have h4 : _ = _ := h3; (try dsimp only at h2); exfalso; omega) | (intro h1; have h2 : _ = _ := h1; exfalso; omega) | (intro h1; have h2 : _ ≤ _ := h1; exfalso; omega) | (intros; exfalso; (try dsimp only at *); omega) | (intro b h1 h2 h3; exfalso; have h4 := h3.2; (try dsimp only at *); omega) | (intro h1; exfalso; have h4 := h1.2; (try dsimp only at *); omega) | (intro x h1 h2; exfalso; have h4 := h2.2; (try dsimp only at *); omega) | (intro x h1 h2; exact ⟨_, rfl, h2⟩) | (intro x h1 h2; have h4 := h2.1; have h5 := h2.2; exfalso; omega) | (intro x h1 h2; exact h2.1) | (intro x h1 h2; rcases h2.1 with h3 | h3; exact h3; exfalso; omega) | (intro x h1 h2; rcases h2 with h3 | h3; exact h3; exfalso; omega))
          replace hw := hw.chg kq_11 (by first | (intro x h1 h2; exact h2) | (intro x h0 h1 h2; exact hS x h1 h2) | (intro x h0 h1 h2; have h3 : _ = _ := h2; subst h3; exact hSR h1.1) | (intro x h1 h2; have h3 : _ = _ := h2; subst h3; assumption) | (intro x h1 h2; have h3 : _ = _ := h2; exfalso; omega) | (intro b h1 h2 h3; have h4 : _ = _ := h3; (try dsimp only at h2); exfalso; omega) | (intro h1; have h2 : _ = _ := h1; exfalso; omega) | (intro h1; have h2 : _ ≤ _ := h1; exfalso; omega) | (intros; exfalso; (try dsimp only at *); omega) | (intro b h1 h2 h3; exfalso; have h4 := h3.2; (try dsimp only at *); omega) | (intro h1; exfalso; have h4 := h1.2; (try dsimp only at *); omega) | (intro x h1 h2; exfalso; have h4 := h2.2; (try dsimp only at *); omega) | (intro x h1 h2; exact ⟨_, rfl, h2⟩) | (intro x h1 h2; have h4 := h2.1; have h5 := h2.2; exfalso; omega) | (intro x h1 h2; exact h2.1) | (intro x h1 h2; rcases h2.1 with h3 | h3; exact h3; exfalso; omega) | (intro x h1 h2; rcases h2 with h3 | h3; exact h3; exfalso; omega))
          replace hb8 := hb8.chg kq_11 (by first | (intro x h1 h2; exact h2) | (intro x h0 h1 h2; exact hS x h1 h2) | (intro x h0 h1 h2; have h3 : _ = _ := h2; subst h3; exact hSR h1.1) | (intro x h1 h2; have h3 : _ = _ := h2; subst h3; assumption) | (intro x h1 h2; have h3 : _ = _ := h2; exfalso; omega) | (intro b h1 h2 h3; have h4 : _ = _ := h3; (try dsimp only at h2); exfalso; omega) | (intro h1; have h2 : _ = _ := h1; exfalso; omega) | (intro h1; have h2 : _ ≤ _ := h1; exfalso; omega) | (intros; exfalso; (try dsimp only at *); omega) | (intro b h1 h2 h3; exfalso; have h4 := h3.2; (try dsimp only at *); omega) | (intro h1; exfalso; have h4 := h1.2; (try dsimp only at *); omega) | (intro x h1 h2; exfalso; have h4 := h2.2; (try dsimp only at *); omega) | (intro x h1 h2; exact ⟨_, rfl, h2⟩) | (intro x h1 h2; have h4 := h2.1; have h5 := h2.2; exfalso; omega) | (intro x h1 h2; exact h2.1) | (intro x h1 h2; rcases h2.1 with h3 | h3; exact h3; exfalso; omega) | (intro x h1 h2; rcases h2 with h3 | h3; exact h3; exfalso; omega))
          refine WL.loads [vi x.1.1, vi x.1.2] Tryd.isAgg90 Tryd.sizeOf90 rfl (fun q v hv => ?_) rfl rfl ?_
          ·
            refine hb8.cell (j := 0 + 0 + q) ?_
            match q, hv with
            | 0, hv => exact hv
            | 1, hv => exact hv
          refine WL.nil ?_
          exact WX.one ⟨rfl, by first | exact Chg.refl _ _ | assumption⟩
        apply DQ.step (E' := [(5, _)])
        case ho => rfl
        case hs => exact ⟨rfl, trivial⟩
        case hk => rfl
        case h1 =>
          intro wq_12 kq_12
          refine WL.fieldAddr (fld_92_1) rfl rfl (?_)
          refine WL.nil ?_
          exact WX.one ⟨rfl, by first | exact Chg.refl _ _ | assumption⟩
        apply DQ.step (E' := [(36, _)])
        case ho => rfl
        case hs => exact ⟨rfl, trivial⟩
        case hk => rfl
        case h1 =>
          intro wq_13 kq_13
          have zs_kq_13 := kq_13.size
          replace hB := hB.chg kq_13 (by first | (intro x h1 h2; exact h2) | (intro x h0 h1 h2; exact hS x h1 h2) | (intro x h0 h1 h2; have h3 : _ = _ := h2; subst h3; exact hSR h1.1) | (intro x h1 h2; have h3 : _ = _ := h2; subst h3; assumption) | (intro x h1 h2; have h3 : _ = _ := h2; exfalso; omega) | (intro b h1 h2 h3; have h4 : _ = _ := h3; (try dsimp only at h2); exfalso; omega) | (intro h1; have h2 : _ = _ := h1; exfalso; omega) | (intro h1; have h2 : _ ≤ _ := h1; exfalso; omega) | (intros; exfalso; (try dsimp only at *); omega) | (intro b h1 h2 h3; exfalso; have h4 := h3.2; (try dsimp only at *); omega) | (intro h1; exfalso; have h4 := h1.2; (try dsimp only at *); omega) | (intro x h1 h2; exfalso; have h4 := h2.2; (try dsimp only at *); omega) | (intro x h1 h2; exact ⟨_, rfl, h2⟩) | (intro x h1 h2; have h4 := h2.1; have h5 := h2.2; exfalso; omega) | (intro x h1 h2; exact h2.1) | (intro x h1 h2; rcases h2.1 with h3 | h3; exact h3; exfalso; omega) | (intro x h1 h2; rcases h2 with h3 | h3; exact h3; exfalso; omega))
          replace hw := hw.chg kq_13 (by first | (intro x h1 h2; exact h2) | (intro x h0 h1 h2; exact hS x h1 h2) | (intro x h0 h1 h2; have h3 : _ = _ := h2; subst h3; exact hSR h1.1) | (intro x h1 h2; have h3 : _ = _ := h2; subst h3; assumption) | (intro x h1 h2; have h3 : _ = _ := h2; exfalso; omega) | (intro b h1 h2 h3; have h4 : _ = _ := h3; (try dsimp only at h2); exfalso; omega) | (intro h1; have h2 : _ = _ := h1; exfalso; omega) | (intro h1; have h2 : _ ≤ _ := h1; exfalso; omega) | (intros; exfalso; (try dsimp only at *); omega) | (intro b h1 h2 h3; exfalso; have h4 := h3.2; (try dsimp only at *); omega) | (intro h1; exfalso; have h4 := h1.2; (try dsimp only at *); omega) | (intro x h1 h2; exfalso; have h4 := h2.2; (try dsimp only at *); omega) | (intro x h1 h2; exact ⟨_, rfl, h2⟩) | (intro x h1 h2; have h4 := h2.1; have h5 := h2.2; exfalso; omega) | (intro x h1 h2; exact h2.1) | (intro x h1 h2; rcases h2.1 with h3 | h3; exact h3; exfalso; omega) | (intro x h1 h2; rcases h2 with h3 | h3; exact h3; exfalso; omega))
          replace hb8 := hb8.chg kq_13 (by first | (intro x h1 h2; exact h2) | (intro x h0 h1 h2; exact hS x h1 h2) | (intro x h0 h1 h2; have h3 : _ = _ := h2; subst h3; exact hSR h1.1) | (intro x h1 h2; have h3 : _ = _ := h2; subst h3; assumption) | (intro x h1 h2; have h3 : _ = _ := h2; exfalso; omega) | (intro b h1 h2 h3; have h4 : _ = _ := h3; (try dsimp only at h2); exfalso; omega) | (intro h1; have h2 : _ = _ := h1; exfalso; omega) | (intro h1; have h2 : _ ≤ _ := h1; exfalso; omega) | (intros; exfalso; (try dsimp only at *); omega) | (intro b h1 h2 h3; exfalso; have h4 := h3.2; (try dsimp only at *); omega) | (intro h1; exfalso; have h4 := h1.2; (try dsimp only at *); omega) | (intro x h1 h2; exfalso; have h4 := h2.2; (try dsimp only at *); omega) | (intro x h1 h2; exact ⟨_, rfl, h2⟩) | (intro x h1 h2; have h4 := h2.1; have h5 := h2.2; exfalso; omega) | (intro x h1 h2; exact h2.1) | (intro x h1 h2; rcases h2.1 with h3 | h3; exact h3; exfalso; omega) | (intro x h1 h2; rcases h2 with h3 | h3; exact h3; exfalso; omega))
          refine WL.loadB Tryd.isAgg26 hb8 rfl rfl rfl (?_)
          refine WL.nil ?_
          exact WX.one ⟨rfl, by first | exact Chg.refl _ _ | assumption⟩
        refine DQ.done (fun hd_5 => ?_)
        refine DL.step [(33, _), (35, _), (37, _)] rfl ⟨rfl, rfl, rfl, trivial⟩ rfl (fun wq_14 kq_14 => ?_)
        have zs_kq_14 := kq_14.size
        replace hB := hB.pure kq_14
        replace hI := hI.pure kq_14
        replace hw := hw.pure kq_14
        replace hp := hp.pure kq_14
        replace hb8 := hb8.pure kq_14
        replace hd_5 := hd_5.pure kq_14
        refine WL.mput (v := x.2) plOk Tryd.underlying83 hI.map rfl (show _ = some (kpl x.1) from rfl) (show _ = some (vsl x.2) from rfl) ?_
        intro w9 z9 hM9 k9
        have hI9 := hI.putMap hM9 k9 (fun p hp => by
          rcases mput_mem hp with h3 | h3
          ·
            exact .inl ⟨p, h3, rfl⟩
          ·
            subst h3
            exact .inr ⟨x, List.mem_of_getElem? hx, rfl⟩)
        have hp9 := hp.chg k9 (fun b _ h1 h2 => hSm (by rw [← (show b = m from h2)]; exact h1.1))
        have zs_k9 := k9.size
        replace hB := hB.chg k9 (by first | (intro x h1 h2; exact h2) | (intro x h0 h1 h2; exact hS x h1 h2) | (intro x h0 h1 h2; have h3 : _ = _ := h2; subst h3; exact hSR h1.1) | (intro x h1 h2; have h3 : _ = _ := h2; subst h3; assumption) | (intro x h1 h2; have h3 : _ = _ := h2; exfalso; omega) | (intro b h1 h2 h3; have h4 : _ = _ := h3; (try dsimp only at h2); exfalso; omega) | (intro h1; have h2 : _ = _ := h1; exfalso; omega) | (intro h1; have h2 : _ ≤ _ := h1; exfalso; omega) | (intros; exfalso; (try dsimp only at *); omega) | (intro b h1 h2 h3; exfalso; have h4 := h3.2; (try dsimp only at *); omega) | (intro h1; exfalso; have h4 := h1.2; (try dsimp only at *); omega) | (intro x h1 h2; exfalso; have h4 := h2.2; (try dsimp only at *); omega) | (intro x h1 h2; exact ⟨_, rfl, h2⟩) | (intro x h1 h2; have h4 := h2.1; have h5 := h2.2; exfalso; omega) | (intro x h1 h2; exact h2.1) | (intro x h1 h2; rcases h2.1 with h3 | h3; exact h3; exfalso; omega) | (intro x h1 h2; rcases h2 with h3 | h3; exact h3; exfalso; omega))
        replace hw := hw.chg k9 (by first | (intro x h1 h2; exact h2) | (intro x h0 h1 h2; exact hS x h1 h2) | (intro x h0 h1 h2; have h3 : _ = _ := h2; subst h3; exact hSR h1.1) | (intro x h1 h2; have h3 : _ = _ := h2; subst h3; assumption) | (intro x h1 h2; have h3 : _ = _ := h2; exfalso; omega) | (intro b h1 h2 h3; have h4 : _ = _ := h3; (try dsimp only at h2); exfalso; omega) | (intro h1; have h2 : _ = _ := h1; exfalso; omega) | (intro h1; have h2 : _ ≤ _ := h1; exfalso; omega) | (intros; exfalso; (try dsimp only at *); omega) | (intro b h1 h2 h3; exfalso; have h4 := h3.2; (try dsimp only at *); omega) | (intro h1; exfalso; have h4 := h1.2; (try dsimp only at *); omega) | (intro x h1 h2; exfalso; have h4 := h2.2; (try dsimp only at *); omega) | (intro x h1 h2; exact ⟨_, rfl, h2⟩) | (intro x h1 h2; have h4 := h2.1; have h5 := h2.2; exfalso; omega) | (intro x h1 h2; exact h2.1) | (intro x h1 h2; rcases h2.1 with h3 | h3; exact h3; exfalso; omega) | (intro x h1 h2; rcases h2 with h3 | h3; exact h3; exfalso; omega))
        replace hb8 := hb8.chg k9 (by first | (intro x h1 h2; exact h2) | (intro x h0 h1 h2; exact hS x h1 h2) | (intro x h0 h1 h2; have h3 : _ = _ := h2; subst h3; exact hSR h1.1) | (intro x h1 h2; have h3 : _ = _ := h2; subst h3; assumption) | (intro x h1 h2; have h3 : _ = _ := h2; exfalso; omega) | (intro b h1 h2 h3; have h4 : _ = _ := h3; (try dsimp only at h2); exfalso; omega) | (intro h1; have h2 : _ = _ := h1; exfalso; omega) | (intro h1; have h2 : _ ≤ _ := h1; exfalso; omega) | (intros; exfalso; (try dsimp only at *); omega) | (intro b h1 h2 h3; exfalso; have h4 := h3.2; (try dsimp only at *); omega) | (intro h1; exfalso; have h4 := h1.2; (try dsimp only at *); omega) | (intro x h1 h2; exfalso; have h4 := h2.2; (try dsimp only at *); omega) | (intro x h1 h2; exact ⟨_, rfl, h2⟩) | (intro x h1 h2; have h4 := h2.1; have h5 := h2.2; exfalso; omega) | (intro x h1 h2; exact h2.1) | (intro x h1 h2; rcases h2.1 with h3 | h3; exact h3; exfalso; omega) | (intro x h1 h2; rcases h2 with h3 | h3; exact h3; exfalso; omega))
        replace hd_5 := hd_5.chg k9 (by first | (intro x h1 h2; exact h2) | (intro x h0 h1 h2; exact hS x h1 h2) | (intro x h0 h1 h2; have h3 : _ = _ := h2; subst h3; exact hSR h1.1) | (intro x h1 h2; have h3 : _ = _ := h2; subst h3; assumption) | (intro x h1 h2; have h3 : _ = _ := h2; exfalso; omega) | (intro b h1 h2 h3; have h4 : _ = _ := h3; (try dsimp only at h2); exfalso; omega) | (intro h1; have h2 : _ = _ := h1; exfalso; omega) | (intro h1; have h2 : _ ≤ _ := h1; exfalso; omega) | (intros; exfalso; (try dsimp only at *); omega) | (intro b h1 h2 h3; exfalso; have h4 := h3.2; (try dsimp only at *); omega) | (intro h1; exfalso; have h4 := h1.2; (try dsimp only at *); omega) | (intro x h1 h2; exfalso; have h4 := h2.2; (try dsimp only at *); omega) | (intro x h1 h2; exact ⟨_, rfl, h2⟩) | (intro x h1 h2; have h4 := h2.1; have h5 := h2.2; exfalso; omega) | (intro x h1 h2; exact h2.1) | (intro x h1 h2; rcases h2.1 with h3 | h3; exact h3; exfalso; omega) | (intro x h1 h2; rcases h2 with h3 | h3; exact h3; exfalso; omega))
        refine WL.nil ?_
        refine WX.one0 (v := undef) ⟨hd_5, ?_⟩
        refine DL.done (fun we_15 ke_15 => ?_)
        have zs_ke_15 := ke_15.size
        replace hB := hB.pure ke_15
        replace hw := hw.pure ke_15
        replace hb8 := hb8.pure ke_15
        replace hd_5 := hd_5.pure ke_15
        replace hI9 := hI9.pure ke_15
        replace hp9 := hp9.pure ke_15
        refine WX.block_normal (WX.then_normal (WC.region (WL.add64 rfl rfl (by first | omega | (constructor <;> omega)) rfl (WL.move rfl rfl (WL.nil (?_))))))
        first
          | (have hy1 : y % 2 = 1 := by omega
             rw [← puts_yes (kp := keep ps) hx (by simp [keep, hy, hy1])] at hI9
             exact WX.loop_next (i + 1) ⟨rfl, rfl, rfl, rfl, rfl, trivial⟩ ⟨by omega, hB, hI9, hw, by omega, hp9⟩ (by omega))
          | (have hy1 : ¬ y % 2 = 1 := by omega
             rw [← puts_not (kp := keep ps) hx (by simp [keep, hy, hy1])] at hI
             exact WX.loop_next (i + 1) ⟨rfl, rfl, rfl, rfl, rfl, trivial⟩ ⟨by omega, hB, hI, hw, by omega, hp⟩ (by omega))
          | (have hy : ps[i]? = none := List.getElem?_eq_none (by omega)
             rw [← puts_not (kp := keep ps) hx (by simp [keep, hy])] at hI
             exact WX.loop_next (i + 1) ⟨rfl, rfl, rfl, rfl, rfl, trivial⟩ ⟨by omega, hB, hI, hw, by omega, hp⟩ (by omega))
      ·
        refine WL.pickT rfl rfl rfl (WL.nil (WX.then_normal (WC.cond_false rfl (WC.skip (WX.block_normal (WX.then_normal (WC.region (?_))))))))
        refine WL.add64 rfl rfl (by first | omega | (constructor <;> omega)) rfl (WL.move rfl rfl (WL.nil (?_)))
        first
          | (have hy1 : y % 2 = 1 := by omega
             rw [← puts_yes (kp := keep ps) hx (by simp [keep, hy, hy1])] at hI9
             exact WX.loop_next (i + 1) ⟨rfl, rfl, rfl, rfl, rfl, trivial⟩ ⟨by omega, hB, hI9, hw, by omega, hp9⟩ (by omega))
          | (have hy1 : ¬ y % 2 = 1 := by omega
             rw [← puts_not (kp := keep ps) hx (by simp [keep, hy, hy1])] at hI
             exact WX.loop_next (i + 1) ⟨rfl, rfl, rfl, rfl, rfl, trivial⟩ ⟨by omega, hB, hI, hw, by omega, hp⟩ (by omega))
          | (have hy : ps[i]? = none := List.getElem?_eq_none (by omega)
             rw [← puts_not (kp := keep ps) hx (by simp [keep, hy])] at hI
             exact WX.loop_next (i + 1) ⟨rfl, rfl, rfl, rfl, rfl, trivial⟩ ⟨by omega, hB, hI, hw, by omega, hp⟩ (by omega))
    ·
      refine WL.move rfl rfl (WL.pass rfl rfl rfl rfl (WL.pass rfl rfl rfl rfl (WL.pass rfl rfl rfl rfl (WL.pass rfl rfl rfl rfl (WL.pass rfl rfl rfl rfl (WL.pass rfl rfl rfl rfl (WL.pickF rfl rfl rfl (?_))))))))
      refine WL.nil (WX.then_normal (WC.cond_false rfl (WC.skip (WX.block_normal (WX.then_normal (WC.region (WL.add64 rfl rfl (by first | omega | (constructor <;> omega)) rfl (?_))))))))
      refine WL.move rfl rfl (WL.nil (?_))
      first
        | (have hy1 : y % 2 = 1 := by omega
           rw [← puts_yes (kp := keep ps) hx (by simp [keep, hy, hy1])] at hI9
           exact WX.loop_next (i + 1) ⟨rfl, rfl, rfl, rfl, rfl, trivial⟩ ⟨by omega, hB, hI9, hw, by omega, hp9⟩ (by omega))
        | (have hy1 : ¬ y % 2 = 1 := by omega
           rw [← puts_not (kp := keep ps) hx (by simp [keep, hy, hy1])] at hI
           exact WX.loop_next (i + 1) ⟨rfl, rfl, rfl, rfl, rfl, trivial⟩ ⟨by omega, hB, hI, hw, by omega, hp⟩ (by omega))
        | (have hy : ps[i]? = none := List.getElem?_eq_none (by omega)
           rw [← puts_not (kp := keep ps) hx (by simp [keep, hy])] at hI
           exact WX.loop_next (i + 1) ⟨rfl, rfl, rfl, rfl, rfl, trivial⟩ ⟨by omega, hB, hI, hw, by omega, hp⟩ (by omega))
  ·
    refine WL.nil (WX.then_normal (WC.seq (WC.cond_false rfl (WC.exit (WX.then_exit (WX.then_exit (WX.block_here (?_))))))))
    refine WX.then_normal (WC.region (WL.move rfl rfl (WL.move rfl rfl (WL.move rfl rfl (WL.nilCheck rfl rfl (WL.fieldAddr (fld_86_4) rfl rfl (?_)))))))
    refine WL.store Tryd.sizeOf84 hB rfl rfl rfl rfl ?_
    intro w_1 hs_1 hn_1 k_1
    have zs_k_1 := k_1.size
    replace hI := hI.chg k_1 (by first | (intro x h1 h2; exact h2) | (intro x h0 h1 h2; exact hS x h1 h2) | (intro x h0 h1 h2; have h3 : _ = _ := h2; subst h3; exact hSR h1.1) | (intro x h1 h2; have h3 : _ = _ := h2; subst h3; assumption) | (intro x h1 h2; have h3 : _ = _ := h2; exfalso; omega) | (intro b h1 h2 h3; have h4 : _ = _ := h3; (try dsimp only at h2); exfalso; omega) | (intro h1; have h2 : _ = _ := h1; exfalso; omega) | (intro h1; have h2 : _ ≤ _ := h1; exfalso; omega) | (intros; exfalso; (try dsimp only at *); omega) | (intro b h1 h2 h3; exfalso; have h4 := h3.2; (try dsimp only at *); omega) | (intro h1; exfalso; have h4 := h1.2; (try dsimp only at *); omega) | (intro x h1 h2; exfalso; have h4 := h2.2; (try dsimp only at *); omega) | (intro x h1 h2; exact ⟨_, rfl, h2⟩) | (intro x h1 h2; have h4 := h2.1; have h5 := h2.2; exfalso; omega) | (intro x h1 h2; exact h2.1) | (intro x h1 h2; rcases h2.1 with h3 | h3; exact h3; exfalso; omega) | (intro x h1 h2; rcases h2 with h3 | h3; exact h3; exfalso; omega))
    replace hw := hw.chg k_1 (by first | (intro x h1 h2; exact h2) | (intro x h0 h1 h2; exact hS x h1 h2) | (intro x h0 h1 h2; have h3 : _ = _ := h2; subst h3; exact hSR h1.1) | (intro x h1 h2; have h3 : _ = _ := h2; subst h3; assumption) | (intro x h1 h2; have h3 : _ = _ := h2; exfalso; omega) | (intro b h1 h2 h3; have h4 : _ = _ := h3; (try dsimp only at h2); exfalso; omega) | (intro h1; have h2 : _ = _ := h1; exfalso; omega) | (intro h1; have h2 : _ ≤ _ := h1; exfalso; omega) | (intros; exfalso; (try dsimp only at *); omega) | (intro b h1 h2 h3; exfalso; have h4 := h3.2; (try dsimp only at *); omega) | (intro h1; exfalso; have h4 := h1.2; (try dsimp only at *); omega) | (intro x h1 h2; exfalso; have h4 := h2.2; (try dsimp only at *); omega) | (intro x h1 h2; exact ⟨_, rfl, h2⟩) | (intro x h1 h2; have h4 := h2.1; have h5 := h2.2; exfalso; omega) | (intro x h1 h2; exact h2.1) | (intro x h1 h2; rcases h2.1 with h3 | h3; exact h3; exfalso; omega) | (intro x h1 h2; rcases h2 with h3 | h3; exact h3; exfalso; omega))
    replace hp := hp.chg k_1 (by first | (intro x h1 h2; exact h2) | (intro x h0 h1 h2; exact hS x h1 h2) | (intro x h0 h1 h2; have h3 : _ = _ := h2; subst h3; exact hSR h1.1) | (intro x h1 h2; have h3 : _ = _ := h2; subst h3; assumption) | (intro x h1 h2; have h3 : _ = _ := h2; exfalso; omega) | (intro b h1 h2 h3; have h4 : _ = _ := h3; (try dsimp only at h2); exfalso; omega) | (intro h1; have h2 : _ = _ := h1; exfalso; omega) | (intro h1; have h2 : _ ≤ _ := h1; exfalso; omega) | (intros; exfalso; (try dsimp only at *); omega) | (intro b h1 h2 h3; exfalso; have h4 := h3.2; (try dsimp only at *); omega) | (intro h1; exfalso; have h4 := h1.2; (try dsimp only at *); omega) | (intro x h1 h2; exfalso; have h4 := h2.2; (try dsimp only at *); omega) | (intro x h1 h2; exact ⟨_, rfl, h2⟩) | (intro x h1 h2; have h4 := h2.1; have h5 := h2.2; exfalso; omega) | (intro x h1 h2; exact h2.1) | (intro x h1 h2; rcases h2.1 with h3 | h3; exact h3; exfalso; omega) | (intro x h1 h2; rcases h2 with h3 | h3; exact h3; exfalso; omega))
    replace hB := hn_1
    refine WL.nilCheck rfl rfl (WL.fieldAddr (fld_86_5) rfl rfl (?_))
    refine WL.store Tryd.sizeOf4 hB rfl rfl rfl rfl ?_
    intro w_2 hs_2 hn_2 k_2
    have zs_k_2 := k_2.size
    replace hI := hI.chg k_2 (by first | (intro x h1 h2; exact h2) | (intro x h0 h1 h2; exact hS x h1 h2) | (intro x h0 h1 h2; have h3 : _ = _ := h2; subst h3; exact hSR h1.1) | (intro x h1 h2; have h3 : _ = _ := h2; subst h3; assumption) | (intro x h1 h2; have h3 : _ = _ := h2; exfalso; omega) | (intro b h1 h2 h3; have h4 : _ = _ := h3; (try dsimp only at h2); exfalso; omega) | (intro h1; have h2 : _ = _ := h1; exfalso; omega) | (intro h1; have h2 : _ ≤ _ := h1; exfalso; omega) | (intros; exfalso; (try dsimp only at *); omega) | (intro b h1 h2 h3; exfalso; have h4 := h3.2; (try dsimp only at *); omega) | (intro h1; exfalso; have h4 := h1.2; (try dsimp only at *); omega) | (intro x h1 h2; exfalso; have h4 := h2.2; (try dsimp only at *); omega) | (intro x h1 h2; exact ⟨_, rfl, h2⟩) | (intro x h1 h2; have h4 := h2.1; have h5 := h2.2; exfalso; omega) | (intro x h1 h2; exact h2.1) | (intro x h1 h2; rcases h2.1 with h3 | h3; exact h3; exfalso; omega) | (intro x h1 h2; rcases h2 with h3 | h3; exact h3; exfalso; omega))
    replace hw := hw.chg k_2 (by first | (intro x h1 h2; exact h2) | (intro x h0 h1 h2; exact hS x h1 h2) | (intro x h0 h1 h2; have h3 : _ = _ := h2; subst h3; exact hSR h1.1) | (intro x h1 h2; have h3 : _ = _ := h2; subst h3; assumption) | (intro x h1 h2; have h3 : _ = _ := h2; exfalso; omega) | (intro b h1 h2 h3; have h4 : _ = _ := h3; (try dsimp only at h2); exfalso; omega) | (intro h1; have h2 : _ = _ := h1; exfalso; omega) | (intro h1; have h2 : _ ≤ _ := h1; exfalso; omega) | (intros; exfalso; (try dsimp only at *); omega) | (intro b h1 h2 h3; exfalso; have h4 := h3.2; (try dsimp only at *); omega) | (intro h1; exfalso; have h4 := h1.2; (try dsimp only at *); omega) | (intro x h1 h2; exfalso; have h4 := h2.2; (try dsimp only at *); omega) | (intro x h1 h2; exact ⟨_, rfl, h2⟩) | (intro x h1 h2; have h4 := h2.1; have h5 := h2.2; exfalso; omega) | (intro x h1 h2; exact h2.1) | (intro x h1 h2; rcases h2.1 with h3 | h3; exact h3; exfalso; omega) | (intro x h1 h2; rcases h2 with h3 | h3; exact h3; exfalso; omega))
    replace hp := hp.chg k_2 (by first | (intro x h1 h2; exact h2) | (intro x h0 h1 h2; exact hS x h1 h2) | (intro x h0 h1 h2; have h3 : _ = _ := h2; subst h3; exact hSR h1.1) | (intro x h1 h2; have h3 : _ = _ := h2; subst h3; assumption) | (intro x h1 h2; have h3 : _ = _ := h2; exfalso; omega) | (intro b h1 h2 h3; have h4 : _ = _ := h3; (try dsimp only at h2); exfalso; omega) | (intro h1; have h2 : _ = _ := h1; exfalso; omega) | (intro h1; have h2 : _ ≤ _ := h1; exfalso; omega) | (intros; exfalso; (try dsimp only at *); omega) | (intro b h1 h2 h3; exfalso; have h4 := h3.2; (try dsimp only at *); omega) | (intro h1; exfalso; have h4 := h1.2; (try dsimp only at *); omega) | (intro x h1 h2; exfalso; have h4 := h2.2; (try dsimp only at *); omega) | (intro x h1 h2; exact ⟨_, rfl, h2⟩) | (intro x h1 h2; have h4 := h2.1; have h5 := h2.2; exfalso; omega) | (intro x h1 h2; exact h2.1) | (intro x h1 h2; rcases h2.1 with h3 | h3; exact h3; exfalso; omega) | (intro x h1 h2; rcases h2 with h3 | h3; exact h3; exfalso; omega))
    replace hB := hn_2
    refine WL.nilCheck rfl rfl (WL.fieldAddr (fld_86_6) rfl rfl (?_))
    refine WL.store Tryd.sizeOf4 hB rfl rfl rfl rfl ?_
    intro w_3 hs_3 hn_3 k_3
    have zs_k_3 := k_3.size
    replace hI := hI.chg k_3 (by first | (intro x h1 h2; exact h2) | (intro x h0 h1 h2; exact hS x h1 h2) | (intro x h0 h1 h2; have h3 : _ = _ := h2; subst h3; exact hSR h1.1) | (intro x h1 h2; have h3 : _ = _ := h2; subst h3; assumption) | (intro x h1 h2; have h3 : _ = _ := h2; exfalso; omega) | (intro b h1 h2 h3; have h4 : _ = _ := h3; (try dsimp only at h2); exfalso; omega) | (intro h1; have h2 : _ = _ := h1; exfalso; omega) | (intro h1; have h2 : _ ≤ _ := h1; exfalso; omega) | (intros; exfalso; (try dsimp only at *); omega) | (intro b h1 h2 h3; exfalso; have h4 := h3.2; (try dsimp only at *); omega) | (intro h1; exfalso; have h4 := h1.2; (try dsimp only at *); omega) | (intro x h1 h2; exfalso; have h4 := h2.2; (try dsimp only at *); omega) | (intro x h1 h2; exact ⟨_, rfl, h2⟩) | (intro x h1 h2; have h4 := h2.1; have h5 := h2.2; exfalso; omega) | (intro x h1 h2; exact h2.1) | (intro x h1 h2; rcases h2.1 with h3 | h3; exact h3; exfalso; omega) | (intro x h1 h2; rcases h2 with h3 | h3; exact h3; exfalso; omega))
    replace hw := hw.chg k_3 (by first | (intro x h1 h2; exact h2) | (intro x h0 h1 h2; exact hS x h1 h2) | (intro x h0 h1 h2; have h3 : _ = _ := h2; subst h3; exact hSR h1.1) | (intro x h1 h2; have h3 : _ = _ := h2; subst h3; assumption) | (intro x h1 h2; have h3 : _ = _ := h2; exfalso; omega) | (intro b h1 h2 h3; have h4 : _ = _ := h3; (try dsimp only at h2); exfalso; omega) | (intro h1; have h2 : _ = _ := h1; exfalso; omega) | (intro h1; have h2 : _ ≤ _ := h1; exfalso; omega) | (intros; exfalso; (try dsimp only at *); omega) | (intro b h1 h2 h3; exfalso; have h4 := h3.2; (try dsimp only at *); omega) | (intro h1; exfalso; have h4 := h1.2; (try dsimp only at *); omega) | (intro x h1 h2; exfalso; have h4 := h2.2; (try dsimp only at *); omega) | (intro x h1 h2; exact ⟨_, rfl, h2⟩) | (intro x h1 h2; have h4 := h2.1; have h5 := h2.2; exfalso; omega) | (intro x h1 h2; exact h2.1) | (intro x h1 h2; rcases h2.1 with h3 | h3; exact h3; exfalso; omega) | (intro x h1 h2; rcases h2 with h3 | h3; exact h3; exfalso; omega))
    replace hp := hp.chg k_3 (by first | (intro x h1 h2; exact h2) | (intro x h0 h1 h2; exact hS x h1 h2) | (intro x h0 h1 h2; have h3 : _ = _ := h2; subst h3; exact hSR h1.1) | (intro x h1 h2; have h3 : _ = _ := h2; subst h3; assumption) | (intro x h1 h2; have h3 : _ = _ := h2; exfalso; omega) | (intro b h1 h2 h3; have h4 : _ = _ := h3; (try dsimp only at h2); exfalso; omega) | (intro h1; have h2 : _ = _ := h1; exfalso; omega) | (intro h1; have h2 : _ ≤ _ := h1; exfalso; omega) | (intros; exfalso; (try dsimp only at *); omega) | (intro b h1 h2 h3; exfalso; have h4 := h3.2; (try dsimp only at *); omega) | (intro h1; exfalso; have h4 := h1.2; (try dsimp only at *); omega) | (intro x h1 h2; exfalso; have h4 := h2.2; (try dsimp only at *); omega) | (intro x h1 h2; exact ⟨_, rfl, h2⟩) | (intro x h1 h2; have h4 := h2.1; have h5 := h2.2; exfalso; omega) | (intro x h1 h2; exact h2.1) | (intro x h1 h2; rcases h2.1 with h3 | h3; exact h3; exfalso; omega) | (intro x h1 h2; rcases h2 with h3 | h3; exact h3; exfalso; omega))
    replace hB := hn_3
    refine WL.nil (?_)
    refine WX.ret0 (.inr rfl) Tryd.results21 ?_
    have hil : i = ws.length := by omega
    subst hil
    refine ⟨_, rfl, rfl, ⟨aR, hok, m, ga, gc, none, 0, [], puts (keep ps) ws ls ws.length, hB, (hI.mono (fun x hx => hx.1.1)).noWaits, ?_, rfl⟩, hw⟩
    show puts (keep ps) s.waits s.last s.waits.length = _
    rw [xsm_puts, hls, hws, xsm_len]
/-! a new rack -/
def newS (dn sn : Nat) : RA := ⟨dn, sn, [], List.replicate dn false, [], false, false, 0⟩
theorem newS_ok {dn sn : Nat} (hd : 1 ≤ dn ∧ dn ≤ 16) (hs : 1 ≤ sn ∧ sn ≤ 2000) : (newS dn sn).ok :=
  ⟨hd, hs, by simp [newS], fun p hp => by simp [newS] at hp, fun p hp => by simp [newS] at hp, ⟨fun h => by simp [newS] at h, by simp [newS], by simp [newS]⟩, by simp [newS]⟩
theorem New_calls (w : World) {dn sn : Nat} (hd : 1 ≤ dn ∧ dn ≤ 16) (hs : 1 ≤ sn ∧ sn ≤ 2000) :
    Calls Tryd.prog 15 [vi dn, vi sn].toArray w (Ret fun v w' => (∃ R, v = .tuple #[ptr R, vi 0] ∧ RK (w.heap.size ≤ ·) w' R (newS dn sn)) ∧ Chg Nob w w') := by
  have hw := Chg.refl Nob w
  refine Calls.of_WC Tryd.func15 rfl Tryd.ntmps15 (by simp) ?_
  refine WC.seq (WC.region (WL.assign rfl rfl (WL.assign rfl rfl (WL.nil (WX.then_normal (WC.seq (WC.seq (?_))))))))
  refine WC.region (WL.move rfl rfl (?_))
  refine WL.lss? rfl rfl rfl (fun h7 => ?_) (fun h7 => ?_)
  ·
    refine WL.move rfl rfl (WL.pass rfl rfl rfl rfl (WL.pass rfl rfl rfl rfl (WL.pickT rfl rfl rfl (WL.move rfl rfl (WL.pass rfl rfl rfl rfl (WL.pass rfl rfl rfl rfl (WL.pickT rfl rfl rfl (?_))))))))
    refine WL.move rfl rfl (WL.pass rfl rfl rfl rfl (WL.pass rfl rfl rfl rfl (WL.pickT rfl rfl rfl (WL.nil (WX.then_normal (WC.cond_true rfl (WC.seq (?_))))))))
    refine WC.region (WL.assign rfl rfl (WL.assign rfl rfl (WL.nil (WX.then_normal (WC.ret (WX.then_ret (?_)))))))
    refine WX.ret2 (.inl rfl) Tryd.results15 rfl rfl ?_
    first
      | (exfalso; omega)
      | (refine ⟨_, rfl, ⟨_, rfl, ⟨by omega, newS_ok hd hs, m, _, _, none, 0, [], [], hb_1, ⟨by omega, hM, hm.mono (fun x hx => by omega), Row.nil _ _ _ _, fun p hp => by simp at hp, fun p hp => by simp at hp⟩, rfl, rfl⟩⟩, hw⟩)
  ·
    refine WL.move rfl rfl (WL.want rfl rfl rfl (WL.move rfl rfl (WL.want rfl rfl rfl (?_))))
    refine WL.gtr? rfl rfl rfl (fun h10 => ?_) (fun h10 => ?_)
    ·
      refine WL.pickF rfl rfl rfl (WL.move rfl rfl (WL.pass rfl rfl rfl rfl (WL.pass rfl rfl rfl rfl (WL.pickT rfl rfl rfl (WL.move rfl rfl (WL.pass rfl rfl rfl rfl (WL.pass rfl rfl rfl rfl (?_))))))))
      refine WL.pickT rfl rfl rfl (WL.nil (WX.then_normal (WC.cond_true rfl (WC.seq (WC.region (WL.assign rfl rfl (WL.assign rfl rfl (?_))))))))
      refine WL.nil (WX.then_normal (WC.ret (WX.then_ret (?_))))
      refine WX.ret2 (.inl rfl) Tryd.results15 rfl rfl ?_
      first
        | (exfalso; omega)
        | (refine ⟨_, rfl, ⟨_, rfl, ⟨by omega, newS_ok hd hs, m, _, _, none, 0, [], [], hb_1, ⟨by omega, hM, hm.mono (fun x hx => by omega), Row.nil _ _ _ _, fun p hp => by simp at hp, fun p hp => by simp at hp⟩, rfl, rfl⟩⟩, hw⟩)
    ·
      refine WL.pickF rfl rfl rfl (WL.move rfl rfl (WL.want rfl rfl rfl (WL.move rfl rfl (WL.want rfl rfl rfl (?_)))))
      refine WL.lss? rfl rfl rfl (fun h14 => ?_) (fun h14 => ?_)
      ·
        refine WL.pickF rfl rfl rfl (WL.move rfl rfl (WL.pass rfl rfl rfl rfl (WL.pass rfl rfl rfl rfl (WL.pickT rfl rfl rfl (WL.nil (WX.then_normal (WC.cond_true rfl (?_))))))))
        refine WC.seq (WC.region (WL.assign rfl rfl (WL.assign rfl rfl (WL.nil (WX.then_normal (WC.ret (WX.then_ret (?_))))))))
        refine WX.ret2 (.inl rfl) Tryd.results15 rfl rfl ?_
        first
          | (exfalso; omega)
          | (refine ⟨_, rfl, ⟨_, rfl, ⟨by omega, newS_ok hd hs, m, _, _, none, 0, [], [], hb_1, ⟨by omega, hM, hm.mono (fun x hx => by omega), Row.nil _ _ _ _, fun p hp => by simp at hp, fun p hp => by simp at hp⟩, rfl, rfl⟩⟩, hw⟩)
      ·
        refine WL.pickF rfl rfl rfl (WL.move rfl rfl (WL.want rfl rfl rfl (WL.move rfl rfl (WL.want rfl rfl rfl (?_)))))
        refine WL.gtr? rfl rfl rfl (fun h18 => ?_) (fun h18 => ?_)
        ·
          refine WL.pickF rfl rfl rfl (WL.nil (WX.then_normal (WC.cond_true rfl (WC.seq (WC.region (WL.assign rfl rfl (WL.assign rfl rfl (?_))))))))
          refine WL.nil (WX.then_normal (WC.ret (WX.then_ret (?_))))
          refine WX.ret2 (.inl rfl) Tryd.results15 rfl rfl ?_
          first
            | (exfalso; omega)
            | (refine ⟨_, rfl, ⟨_, rfl, ⟨by omega, newS_ok hd hs, m, _, _, none, 0, [], [], hb_1, ⟨by omega, hM, hm.mono (fun x hx => by omega), Row.nil _ _ _ _, fun p hp => by simp at hp, fun p hp => by simp at hp⟩, rfl, rfl⟩⟩, hw⟩)
        ·
          refine WL.pickF rfl rfl rfl (WL.nil (WX.then_normal (WC.cond_false rfl (WC.skip (WX.then_normal (WC.seq (WC.region (?_))))))))
          refine WL.move rfl rfl (WL.move rfl rfl (?_))
          refine WL.makeMap (kv := kpl) (vv := vsl) rfl ?_
          intro m w1 em lm hM k1
          have zs_k1 := k1.size
          replace hw := hw.pure k1
          refine WL.move rfl rfl (?_)
          refine WL.make (e := ebool) false dn dn Tryd.underlying67 info_4 rfl rfl rfl ⟨rfl, rfl, Nat.le_refl _⟩ (by constructor <;> omega) rfl ?_
          intro g3 w3 hm k3 z3 eg3
          have zs_k3 := k3.size
          replace hw := hw.pure k3
          replace hM := hM.pure k3
          refine WL.bld rfl (bld_86_0_1_2_3 _ _ _ _ _ _) rfl (?_)
          refine WL.box rfl rfl ?_
          intro g_1 w_1 hge_1 hlt_1 hb_1 k_1
          have zs_k_1 := k_1.size
          replace hw := hw.pure k_1
          replace hM := hM.pure k_1
          replace hm := hm.pure k_1
          refine WL.assign rfl rfl (WL.assign rfl rfl (WL.nil (WX.then_normal (WC.ret (?_)))))
          refine WX.ret2 (.inl rfl) Tryd.results15 rfl rfl ?_
          first
            | (exfalso; omega)
            | (refine ⟨_, rfl, ⟨_, rfl, ⟨by omega, newS_ok hd hs, m, _, _, none, 0, [], [], hb_1, ⟨by omega, hM, hm.mono (fun x hx => by omega), Row.nil _ _ _ _, fun p hp => by simp at hp, fun p hp => by simp at hp⟩, rfl, rfl⟩⟩, hw⟩)
end Go.Proofs.YtjeldcjchipdgaaDoor
namespace Go.Proofs.YtjeldcjchipdgaaDoor
open Go.RowKit Go.HL
set_option maxRecDepth 100000

/-! what the calls do to what is read -/
def zeros : List UInt8 := List.replicate 128 0
def lastS (s : RA) (p : Pl) : List UInt8 := (mget s.last p).getD zeros
theorem heldS_eq (s : RA) (p : Pl) : heldS s p = match newV s.waits p with | some b => b | none => lastS s p := rfl
theorem newV_snoc {V : Type} (ws : List (Pl × V)) (p q : Pl) (b : V) : newV (ws ++ [(p, b)]) q = if q = p then some b else newV ws q := by
  unfold newV
  rw [List.reverse_append]
  rfl
theorem mget_puts {V : Type} {kp : Nat → Bool} {ws l : List (Pl × V)} {i : Nat} {x : Pl × V} (hx : ws[i]? = some x) (q : Pl) : mget (puts kp ws l (i + 1)) q = if kp i = true ∧ q = x.1 then some x.2 else mget (puts kp ws l i) q := by
  cases hk : kp i
  · rw [puts_not hx hk]
    simp
  · rw [puts_yes hx hk, mget_put]
    simp
theorem mget_puts_all {V : Type} (ws l : List (Pl × V)) (q : Pl) : ∀ i, i ≤ ws.length → mget (puts (fun _ => true) ws l i) q = match newV (ws.take i) q with | some v => some v | none => mget l q := by
  intro i
  induction i with
  | zero => intro _; rfl
  | succ i ih =>
    intro hi
    have hx : ws[i]? = some ws[i] := List.getElem?_eq_getElem (by omega)
    rw [mget_puts hx, ih (by omega), List.take_add_one, hx]
    show _ = match newV (ws.take i ++ [(ws[i].1, ws[i].2)]) q with | some v => some v | none => mget l q
    rw [newV_snoc]
    by_cases h : q = ws[i].1 <;> simp [h]
structure Up (s : RA) : Prop where
  off : s.off = false
  armed : s.armed = false
theorem Up.offS {s : RA} (h : Up s) : offS s = false := by simp [Go.Proofs.YtjeldcjchipdgaaDoor.offS, h.off, h.armed]
theorem Up.spend {s : RA} (h : Up s) : spendS s = s := by
  have h1 := h.offS
  have h2 := h.armed
  unfold spendS
  rw [h1]
  obtain ⟨dn, sn, last, gone, waits, off, armed, left⟩ := s
  simp only at h2
  subst h2
  rfl
/-- one more that waits -/
def addS (s : RA) (p : Pl) (b : List UInt8) : RA := { s with waits := s.waits ++ [(p, b)] }
theorem Up.write {s : RA} (h : Up s) {d a : Int} {b : List UInt8} (hi : inS s d a) (hg : goneS s d = false) (hb : b.length = 128) : writeE s d a b.length = 0 ∧ writeS s d a b = addS s (d, a) b := by
  have h0 : writeE s d a b.length = 0 := writeE_0.2 ⟨hi, hb, hg, h.offS⟩
  refine ⟨h0, ?_⟩
  rw [writeS, if_pos h0, h.spend]
  rfl
theorem addS_held (s : RA) (p q : Pl) (b : List UInt8) : heldS (addS s p b) q = if q = p then b else heldS s q := by
  rw [heldS_eq, heldS_eq, show (addS s p b).waits = s.waits ++ [(p, b)] from rfl, newV_snoc]
  by_cases h : q = p <;> simp [h]
  rfl
theorem addS_up {s : RA} (h : Up s) (p : Pl) (b : List UInt8) : Up (addS s p b) := ⟨h.off, h.armed⟩
/-- all lasts -/
def allS (s : RA) : RA := { s with last := puts (fun _ => true) s.waits s.last s.waits.length, waits := [] }
theorem Up.flush {s : RA} (h : Up s) : flushS s = allS s := by
  unfold flushS
  rw [h.offS, h.spend]
  rfl
theorem allS_up {s : RA} (h : Up s) : Up (allS s) := ⟨h.off, h.armed⟩
theorem allS_last (s : RA) (q : Pl) : lastS (allS s) q = heldS s q := by
  rw [heldS_eq, lastS, show (allS s).last = puts (fun _ => true) s.waits s.last s.waits.length from rfl, mget_puts_all s.waits s.last q _ (Nat.le_refl _), List.take_length]
  cases newV s.waits q <;> rfl
theorem allS_held (s : RA) (q : Pl) : heldS (allS s) q = heldS s q := by
  rw [← allS_last s q]
  rfl
theorem heldS_none {s : RA} (h : s.waits = []) (q : Pl) : heldS s q = lastS s q := by
  rw [heldS_eq, h]
  rfl
theorem crash_up (s : RA) (ps : List Int) : Up (crashS s ps) := ⟨rfl, rfl⟩
theorem crash_held (s : RA) (ps : List Int) (q : Pl) : heldS (crashS s ps) q = lastS (crashS s ps) q := rfl
theorem newS_up (d n : Nat) : Up (newS d n) := ⟨rfl, rfl⟩
theorem newS_gone (d n : Nat) (x : Int) : goneS (newS d n) x = false := by
  rw [goneS, show (newS d n).gone = List.replicate d false from rfl, List.getD_eq_getElem?_getD, List.getElem?_replicate]
  split <;> rfl
theorem newS_held (d n : Nat) (q : Pl) : heldS (newS d n) q = zeros := rfl
theorem new_all (dn sn : Nat) (hd : 1 ≤ dn ∧ dn ≤ 16) (hs : 1 ≤ sn ∧ sn ≤ 2000) : ∃ s : RA, s.dn = dn ∧ s.sn = sn ∧ Up s ∧ (∀ d, goneS s d = false) ∧ (∀ q, heldS s q = zeros) ∧ (∀ q, lastS s q = zeros) ∧ s.waits = [] ∧ ∀ w, Calls Tryd.prog 15 [vi dn, vi sn].toArray w (Ret fun v w' => (∃ R, v = .tuple #[ptr R, vi 0] ∧ RK (w.heap.size ≤ ·) w' R s) ∧ Chg Nob w w') :=
  ⟨newS dn sn, rfl, rfl, newS_up dn sn, newS_gone dn sn, newS_held dn sn, fun _ => rfl, rfl, fun w => New_calls w hd hs⟩
end Go.Proofs.YtjeldcjchipdgaaDoor
namespace Go.Proofs.YtjeldcjchipdgaaDoor
open Go.RowKit Go.HL
set_option maxRecDepth 100000

/-! calls of a rack that has power -/
theorem RK.grow {A : Nat → Prop} {w w' : World} {R : Nat} {s : RA} (h : RK (fun x => A x ∨ w.heap.size ≤ x) w' R s) (hA : ∀ x, w.heap.size ≤ x → A x) : RK A w' R s := h.mono (fun x hx => hx.elim (fun h => h) (hA x))
theorem FlushU {A : Nat → Prop} {w : World} {R : Nat} {s : RA} (h : RK A w R s) (hu : Up s) :
    Calls Tryd.prog 18 [ptr R].toArray w (Ret fun v w' => v = vi 0 ∧ RK A w' R (allS s) ∧ Chg A w w') := by
  refine (Flush_calls h).mono ?_
  rintro e w' ⟨v, rfl, rfl, hR, k⟩
  rw [hu.flush] at hR
  exact ⟨_, rfl, by rw [hu.offS]; rfl, hR, k⟩
end Go.Proofs.YtjeldcjchipdgaaDoor
namespace Go.Proofs.YtjeldcjchipdgaaDoor
open Go.RowKit Go.HL
set_option maxRecDepth 100000

/-! writes that wait and are of a drive are lost -/
abbrev fnDel (g : Nat) : Value := .func (.func 72) #[] #[ptr g]
theorem del_calls {w : World} {g : Nat} {d : Int} (hD : Blk w g 3 [vi d]) (x : Pl × Rw) : Calls Tryd.prog 72 [.agg (ewr.f x).toArray, ptr g].toArray w (Ret fun v w' => v = .bool (decide (x.1.1 = d)) ∧ Chg Nob w w') := by
  have hw := Chg.refl Nob w
  refine Calls.of_WC Tryd.func72 rfl Tryd.ntmps72 (by simp) ?_
  refine WC.seq (WC.region (?_))
  refine WL.box rfl rfl ?_
  intro g_1 w_1 hge_1 hlt_1 hb_1 k_1
  have zs_k_1 := k_1.size
  replace hD := hD.pure k_1
  replace hw := hw.pure k_1
  refine WL.assign rfl rfl (WL.nil (WX.then_normal (WC.seq (WC.region (WL.fieldAddr (fld_92_0) rfl rfl (WL.fieldAddr (fld_90_0) rfl rfl (WL.loadB Tryd.isAgg3 hb_1 rfl rfl rfl (?_))))))))
  refine WL.loadB Tryd.isAgg3 hD rfl rfl rfl (WL.eql rfl rfl rfl (WL.assign rfl rfl (WL.nil (WX.then_normal (WC.ret (?_))))))
  refine WX.ret1 (.inl rfl) Tryd.results72 rfl ?_
  exact ⟨_, rfl, rfl, hw⟩
theorem index_calls {S : Nat → Prop} {w : World} {g : Nat} {d : Int} (hD : Blk w g 3 [vi d]) {wa : Option Addr} {wc : Nat} {ws : List (Pl × Rw)} (hW : Row S w 92 ewr wa wc ws) :
    Calls Tryd.prog 96 [.slice wa ws.length wc, fnDel g].toArray w (Ret fun v w' => (∃ k : Int, v = vi k ∧ ((k = -1 ∧ ∀ x ∈ ws, x.1.1 ≠ d) ∨ ∃ (i : Nat) (x : Pl × Rw), k = (i : Int) ∧ ws[i]? = some x ∧ x.1.1 = d ∧ ∀ j x, j < i → ws[j]? = some x → x.1.1 ≠ d)) ∧ Chg Nob w w') := by
  have hw := Chg.refl Nob w
  have hcap := hW.own.cap
  have hws : ws.length ≤ 9223372036854775807 := by
    rcases hW.own.2.2 with ⟨_, h⟩ | ⟨_, _, _, _, _, _, h, _⟩
    · omega
    · simp only [maxLen] at h; omega
  refine Calls.of_WC Tryd.func96 rfl Tryd.ntmps96 (by simp) ?_
  refine WC.seq (WC.region (WL.assign rfl rfl (WL.nil (WX.then_normal (WC.seq (WC.seq (WC.region (?_))))))))
  refine WL.move rfl rfl (WL.len Tryd.underlying84 rfl rfl (WL.move rfl rfl (WL.nil (WX.then_normal (WC.block (?_))))))
  refine WC.loop (σ := Nat) (fun i => [(0, .slice wa ws.length wc), (1, fnDel g), (7, vi ws.length), (8, vi (i : Int))]) (fun i w' => i ≤ ws.length ∧ Blk w' g 3 [vi d] ∧ Row S w' 92 ewr wa wc ws ∧ Chg Nob w w' ∧ ∀ j x, j < i → ws[j]? = some x → x.1.1 ≠ d) (fun i => ws.length - i) 0 ⟨rfl, rfl, rfl, rfl, trivial⟩ ⟨Nat.zero_le _, hD, hW, hw, fun j x hj => by omega⟩ ?_
  clear hD hW hw
  rintro i w1 ⟨hi, hD, hW, hw, hno⟩
  refine WC.seq (WC.region (?_))
  refine WL.lss? rfl rfl rfl (fun h9 => ?_) (fun h9 => ?_)
  ·
    refine WL.nil (WX.then_normal (WC.seq (WC.cond_true rfl (WC.skip (WX.then_normal (WC.seq (WC.block (?_))))))))
    refine WC.seq (WC.region (WL.move rfl rfl (WL.assign rfl rfl (WL.nil (WX.then_normal (WC.seq (WC.region (?_))))))))
    refine WL.move rfl rfl (WL.move rfl rfl (WL.move rfl rfl (?_)))
    obtain ⟨x, hx⟩ : ∃ x, ws[i]? = some x := ⟨_, List.getElem?_eq_getElem (by omega)⟩
    refine WL.indexT (e := ewr) Tryd.underlying84 Tryd.sizeOf92 hW.rsl rfl rfl ⟨hx, rfl⟩ rfl ?_
    intro bb oo hcc
    refine WL.loads _ Tryd.isAgg92 Tryd.sizeOf92 rfl hcc rfl rfl (?_)
    refine WL.callv eg_72 rfl rfl rfl (del_calls hD x) ?_
    rintro v w2 ⟨rfl, k2⟩
    have zs_k2 := k2.size
    replace hD := hD.pure k2
    replace hW := hW.pure k2
    replace hw := hw.pure k2
    refine WL.nil (WX.then_normal (?_))
    first | refine WC.cond_dec rfl (fun hc16 => ?_) (fun hc16 => ?_) | refine WC.cond_split rfl (fun hc16 => ?_) (fun hc16 => ?_)
    ·
      refine WC.seq (WC.region (WL.move rfl rfl (WL.assign rfl rfl (WL.nil (WX.then_normal (WC.ret (WX.block_ret (?_))))))))
      refine WX.then_ret (WX.then_ret (WX.block_ret (WX.then_ret (?_))))
      refine WX.ret1 (.inl rfl) Tryd.results96 rfl ?_
      first
        | exact ⟨_, rfl, ⟨_, rfl, .inr ⟨i, x, rfl, hx, hc16, hno⟩⟩, hw⟩
        | (refine ⟨_, rfl, ⟨_, rfl, .inl ⟨rfl, fun y hy => ?_⟩⟩, hw⟩
           obtain ⟨k, hk, rfl⟩ := List.getElem_of_mem hy
           exact hno k _ (by omega) (List.getElem?_eq_getElem hk))
    ·
      refine WC.skip (WX.block_normal (WX.then_normal (WC.region (WL.add64 rfl rfl (by first | omega | (constructor <;> omega)) rfl (WL.move rfl rfl (WL.nil (?_)))))))
      refine WX.loop_next (i + 1) ⟨rfl, rfl, rfl, rfl, trivial⟩ ⟨by omega, hD, hW, hw, fun j y hj hy => ?_⟩ (by omega)
      rcases Nat.lt_or_ge j i with h1 | h1
      ·
        exact hno j y h1 hy
      ·
        have h2 : j = i := by omega
        subst h2
        rw [hx] at hy
        injection hy with hy
        subst hy
        exact hc16
  ·
    refine WL.nil (WX.then_normal (WC.seq (WC.cond_false rfl (WC.exit (WX.then_exit (WX.then_exit (WX.block_here (?_))))))))
    refine WX.then_normal (WC.seq (WC.region (WL.assign rfl rfl (WL.nil (WX.then_normal (WC.ret (?_)))))))
    refine WX.ret1 (.inl rfl) Tryd.results96 rfl ?_
    first
      | exact ⟨_, rfl, ⟨_, rfl, .inr ⟨i, x, rfl, hx, hc16, hno⟩⟩, hw⟩
      | (refine ⟨_, rfl, ⟨_, rfl, .inl ⟨rfl, fun y hy => ?_⟩⟩, hw⟩
         obtain ⟨k, hk, rfl⟩ := List.getElem_of_mem hy
         exact hno k _ (by omega) (List.getElem?_eq_getElem hk))
def stay {V : Type} (d : Int) (ws : List (Pl × V)) : List (Pl × V) := ws.filter fun x => !decide (x.1.1 = d)
theorem stay_all {V : Type} {d : Int} {ws : List (Pl × V)} (h : ∀ x ∈ ws, x.1.1 ≠ d) : stay d ws = ws := List.filter_eq_self.2 fun x hx => by simp [h x hx]
theorem stay_snoc {V : Type} {d : Int} {ws : List (Pl × V)} {j : Nat} {x : Pl × V} (hx : ws[j]? = some x) : stay d (ws.take (j + 1)) = if x.1.1 = d then stay d (ws.take j) else stay d (ws.take j) ++ [x] := by
  unfold stay
  rw [List.take_add_one, hx, Option.toList_some, List.filter_append]
  by_cases h : x.1.1 = d <;> simp [h]
theorem delete_calls {S : Nat → Prop} {w : World} {g : Nat} {d : Int} (hD : Blk w g 3 [vi d]) {wa : Option Addr} {wc : Nat} {ws : List (Pl × Rw)} (hW : Row S w 92 ewr wa wc ws) :
    Calls Tryd.prog 71 [.slice wa ws.length wc, fnDel g].toArray w (Ret fun v w' => v = .slice wa (stay d ws).length wc ∧ Row S w' 92 ewr wa wc (stay d ws) ∧ Chg (fun b => Eqb wa b) w w') := by
  have hw := Chg.refl (fun b => Eqb wa b) w
  have hcap := hW.own.cap
  have hD0 := hD
  have hkD := hD.kb
  have hws : ws.length ≤ 9223372036854775807 := by
    rcases hW.own.2.2 with ⟨_, h⟩ | ⟨_, _, _, _, _, _, h, _⟩
    · omega
    · simp only [maxLen] at h; omega
  have lD := hD.lt
  replace hW := hW.kb.lt
  refine Calls.of_WC Tryd.func71 rfl Tryd.ntmps71 (by simp) ?_
  refine WC.seq (WC.region (WL.assign rfl rfl (WL.nil (WX.then_normal (WC.seq (WC.region (WL.move rfl rfl (?_))))))))
  refine WL.move rfl rfl (?_)
  refine WL.call eg_96 rfl rfl (index_calls hD hW) ?_
  rintro v w2 ⟨⟨k, rfl, hix⟩, k2⟩
  have zs_k2 := k2.size
  replace hD := hD.pure k2
  replace hW := hW.pure k2
  replace hw := hw.pure k2
  refine WL.assign rfl rfl (WL.nil (WX.then_normal (WC.seq (WC.seq (WC.region (WL.move rfl rfl (?_)))))))
  refine WL.eql? rfl rfl rfl (fun h12 => ?_) (fun h12 => ?_)
  ·
    refine WL.nil (WX.then_normal (WC.cond_true rfl (WC.seq (WC.region (WL.move rfl rfl (WL.assign rfl rfl (WL.nil (?_))))))))
    refine WX.then_normal (WC.ret (WX.then_ret (?_)))
    refine WX.ret1 (.inl rfl) Tryd.results71 rfl ?_
    first
      | (have hk1 : k = -1 := h12
         rcases hix with ⟨-, hno⟩ | ⟨i0, x0, e0, -⟩
         ·
           rw [stay_all hno]
           exact ⟨_, rfl, rfl, hW.mono (fun x hx => hx.1.1), hw⟩
         ·
           omega)
      | (have hjl : j = ws.length := by omega
         subst hjl
         rw [List.take_length] at htk
         have hil : (stay d ws).length = i := by rw [← htk, List.length_take]; omega
         rw [htk] at hW9
         exact ⟨_, rfl, by rw [hil], hW9.mono (fun x hx => hx.1.1), hw⟩)
  ·
    refine WL.nil (WX.then_normal (WC.cond_false rfl (WC.skip (WX.then_normal (WC.seq (WC.seq (WC.region (?_))))))))
    refine WL.move rfl rfl (?_)
    obtain ⟨i0, x0, rfl, hx0, hxd, hno⟩ := hix.resolve_left (fun h => h12 h.1)
    have hi0 := (List.getElem?_eq_some_iff.1 hx0).1
    obtain ⟨gw, rfl⟩ := hW.place0 hi0
    have lgw := hW.own.lt _ rfl
    have hne : g ≠ gw := fun e => by
      have h1 := (hW.at_ _ rfl).1.2
      rw [← e, hkD] at h1
      exact absurd h1 (by decide)
    have h0i : ws.take i0 = stay d (ws.take (i0 + 1)) := by
      rw [stay_snoc hx0, if_pos hxd, stay_all]
      intro x hx
      obtain ⟨k, hk, rfl⟩ := List.getElem_of_mem hx
      have hk2 : k < i0 := by simp at hk; omega
      refine hno k _ hk2 ?_
      rw [List.getElem_take]
      exact List.getElem?_eq_getElem (by omega)
    refine WL.add64 rfl rfl (by constructor <;> omega) rfl ?_
    refine WL.assign rfl rfl (WL.nil (WX.then_normal (WC.block (?_))))
    have zw := hw.size
    refine WC.loop (σ := Nat × Nat × List (Pl × Rw)) (fun q => [(0, .slice (some ⟨gw, 0, none⟩) ws.length wc), (1, fnDel g), (5, vi (q.1 : Int)), (6, vi (q.2.1 : Int))]) (fun q w' => (q.1 < q.2.1 ∧ q.2.1 ≤ ws.length) ∧ q.2.2.length = ws.length ∧ q.2.2.take q.1 = stay d (ws.take q.2.1) ∧ (∀ k, q.2.1 ≤ k → q.2.2[k]? = ws[k]?) ∧ Blk w' g 3 [vi d] ∧ Row (fun b => (S b ∧ kb w b = some (some 92)) ∧ b < w.heap.size) w' 92 ewr (some ⟨gw, 0, none⟩) wc q.2.2 ∧ Chg (fun b => Eqb (some ⟨gw, 0, none⟩) b) w w' ∧ w2.heap.size ≤ w'.heap.size) (fun q => ws.length - q.2.1) (i0, i0 + 1, ws) ⟨rfl, rfl, rfl, rfl, trivial⟩ ⟨⟨Nat.lt_succ_self _, hi0⟩, rfl, h0i, fun _ _ => rfl, hD, hW, hw, Nat.le_refl _⟩ ?_
    clear hD hW hw
    rintro ⟨i, j, xs⟩ w1 ⟨⟨hij, hj⟩, hlen, htk, hdr, hD, hW, hw, z1⟩
    simp only at hij hj hlen htk hdr hW
    dsimp only
    refine WC.seq (WC.seq (WC.region (WL.move rfl rfl (WL.move rfl rfl (WL.len Tryd.underlying84 rfl rfl (?_))))))
    refine WL.lss? rfl rfl rfl (fun h19 => ?_) (fun h19 => ?_)
    ·
      refine WL.nil (WX.then_normal (WC.cond_true rfl (WC.skip (WX.then_normal (WC.seq (WC.block (WC.seq (?_))))))))
      refine WC.region (WL.move rfl rfl (WL.move rfl rfl (?_)))
      obtain ⟨x, hx⟩ : ∃ x, ws[j]? = some x := ⟨_, List.getElem?_eq_getElem (by omega)⟩
      have hx2 : xs[j]? = some x := (hdr j (Nat.le_refl _)).trans hx
      refine WL.indexT (e := ewr) Tryd.underlying84 Tryd.sizeOf92 hW.rsl (show _ = some (Value.slice (some ⟨gw, 0, none⟩) xs.length wc) from by rw [hlen]; rfl) rfl ⟨hx2, rfl⟩ rfl ?_
      intro bb oo hcc
      refine WL.loads _ Tryd.isAgg92 Tryd.sizeOf92 rfl hcc rfl rfl (?_)
      refine WL.alloc Tryd.zeroValue92 rfl ?_
      intro g_1 w_1 hge_1 hlt_1 hb_1 k_1
      have zs_k_1 := k_1.size
      replace hD := hD.pure k_1
      replace hW := hW.pure k_1
      replace hw := hw.pure k_1
      refine WL.stores Tryd.sizeOf92 hb_1 rfl rfl (by first | (simp; done) | (simp; omega) | rfl) (by first | exact Enc.one _ _ | (intro u hu; obtain ⟨x, _, rfl⟩ := List.mem_map.1 hu; rfl) | (simp [Value.oneCell']; done) | (simp [Value.oneCell', Value.cells]; done)) (by first | (simp; done) | (simp; omega) | (simp [Value.cells]; done) | (simp [Value.cells]; omega) | exact Nat.le_of_ble_eq_true rfl) rfl ?_
      intro w_2 hs_2 hn_2 k_2
      have zs_k_2 := k_2.size
      replace hD := hD.chg k_2 (by first | (intro x h1 h2; exact h2) | (intro x h0 h1 h2; exact hS x h1 h2) | (intro x h0 h1 h2; have h3 : _ = _ := h2; subst h3; exact hSR h1.1) | (intro x h1 h2; have h3 : _ = _ := h2; subst h3; assumption) | (intro x h1 h2; have h3 : _ = _ := h2; exfalso; omega) | (intro b h1 h2 h3; have h4 : _ = _ := h3; (try dsimp only at h2); exfalso; omega) | (intro h1; have h2 : _ = _ := h1; exfalso; omega) | (intro h1; have h2 : _ ≤ _ := h1; exfalso; omega) | (intros; exfalso; (try dsimp only at *); omega) | (intro b h1 h2 h3; exfalso; have h4 := h3.2; (try dsimp only at *); omega) | (intro h1; exfalso; have h4 := h1.2; (try dsimp only at *); omega) | (intro x h1 h2; exfalso; have h4 := h2.2; (try dsimp only at *); omega) | (intro x h1 h2; exact ⟨_, rfl, h2⟩) | (intro x h1 h2; have h4 := h2.1; have h5 := h2.2; exfalso; omega) | (intro x h1 h2; exact h2.1) | (intro x h1 h2; rcases h2.1 with h3 | h3; exact h3; exfalso; omega) | (intro x h1 h2; rcases h2 with h3 | h3; exact h3; exfalso; omega))
      replace hW := hW.chg k_2 (by first | (intro x h1 h2; exact h2) | (intro x h0 h1 h2; exact hS x h1 h2) | (intro x h0 h1 h2; have h3 : _ = _ := h2; subst h3; exact hSR h1.1) | (intro x h1 h2; have h3 : _ = _ := h2; subst h3; assumption) | (intro x h1 h2; have h3 : _ = _ := h2; exfalso; omega) | (intro b h1 h2 h3; have h4 : _ = _ := h3; (try dsimp only at h2); exfalso; omega) | (intro h1; have h2 : _ = _ := h1; exfalso; omega) | (intro h1; have h2 : _ ≤ _ := h1; exfalso; omega) | (intros; exfalso; (try dsimp only at *); omega) | (intro b h1 h2 h3; exfalso; have h4 := h3.2; (try dsimp only at *); omega) | (intro h1; exfalso; have h4 := h1.2; (try dsimp only at *); omega) | (intro x h1 h2; exfalso; have h4 := h2.2; (try dsimp only at *); omega) | (intro x h1 h2; exact ⟨_, rfl, h2⟩) | (intro x h1 h2; have h4 := h2.1; have h5 := h2.2; exfalso; omega) | (intro x h1 h2; exact h2.1) | (intro x h1 h2; rcases h2.1 with h3 | h3; exact h3; exfalso; omega) | (intro x h1 h2; rcases h2 with h3 | h3; exact h3; exfalso; omega))
      replace hw := hw.chg k_2 (by first | (intro x h1 h2; exact h2) | (intro x h0 h1 h2; exact hS x h1 h2) | (intro x h0 h1 h2; have h3 : _ = _ := h2; subst h3; exact hSR h1.1) | (intro x h1 h2; have h3 : _ = _ := h2; subst h3; assumption) | (intro x h1 h2; have h3 : _ = _ := h2; exfalso; omega) | (intro b h1 h2 h3; have h4 : _ = _ := h3; (try dsimp only at h2); exfalso; omega) | (intro h1; have h2 : _ = _ := h1; exfalso; omega) | (intro h1; have h2 : _ ≤ _ := h1; exfalso; omega) | (intros; exfalso; (try dsimp only at *); omega) | (intro b h1 h2 h3; exfalso; have h4 := h3.2; (try dsimp only at *); omega) | (intro h1; exfalso; have h4 := h1.2; (try dsimp only at *); omega) | (intro x h1 h2; exfalso; have h4 := h2.2; (try dsimp only at *); omega) | (intro x h1 h2; exact ⟨_, rfl, h2⟩) | (intro x h1 h2; have h4 := h2.1; have h5 := h2.2; exfalso; omega) | (intro x h1 h2; exact h2.1) | (intro x h1 h2; rcases h2.1 with h3 | h3; exact h3; exfalso; omega) | (intro x h1 h2; rcases h2 with h3 | h3; exact h3; exfalso; omega))
      replace hb_1 := hn_2
      refine WL.nil (WX.then_normal (WC.seq (WC.region (?_))))
      have hb8 : Blk _ g_1 92 (ewr.f x) := hb_1
      refine WL.move rfl rfl ?_
      refine WL.loadsB Tryd.isAgg92 Tryd.sizeOf92 hb8 rfl rfl rfl ?_
      refine WL.callv eg_72 rfl rfl rfl (del_calls hD x) ?_
      rintro v w3 ⟨rfl, k3⟩
      have zs_k3 := k3.size
      replace hD := hD.pure k3
      replace hW := hW.pure k3
      replace hw := hw.pure k3
      replace hb8 := hb8.pure k3
      refine WL.not rfl rfl (WL.nil (WX.then_normal (?_)))
      first | refine WC.cond_dec rfl (fun hc29 => ?_) (fun hc29 => ?_) | refine WC.cond_split rfl (fun hc29 => ?_) (fun hc29 => ?_)
      ·
        refine WC.seq (WC.region (WL.move rfl rfl (WL.move rfl rfl (?_))))
        refine WL.loadsB Tryd.isAgg92 Tryd.sizeOf92 hb8 rfl rfl rfl ?_
        refine WL.index (j := i) Tryd.underlying84 Tryd.sizeOf92 rfl rfl rfl (by omega) rfl ?_
        refine WL.storeE (e := ewr) (vs := ewr.f x) (ys := xs.set i x) Tryd.sizeOf92 hW rfl rfl rfl (ewr.one x) (by show 0 + i * 3 + 3 ≤ xs.length * 3; omega) (List.length_set ..) (by rw [Nat.zero_add]; exact (Enc.all_set ewr (by omega) x).symm) ?_
        intro w8 z8 hW8 k8
        have zs_k8 := k8.size
        replace hD := hD.chg k8 (by first | (intro x h1 h2; exact h2) | (intro x h0 h1 h2; exact hS x h1 h2) | (intro x h0 h1 h2; have h3 : _ = _ := h2; subst h3; exact hSR h1.1) | (intro x h1 h2; have h3 : _ = _ := h2; subst h3; assumption) | (intro x h1 h2; have h3 : _ = _ := h2; exfalso; omega) | (intro b h1 h2 h3; have h4 : _ = _ := h3; (try dsimp only at h2); exfalso; omega) | (intro h1; have h2 : _ = _ := h1; exfalso; omega) | (intro h1; have h2 : _ ≤ _ := h1; exfalso; omega) | (intros; exfalso; (try dsimp only at *); omega) | (intro b h1 h2 h3; exfalso; have h4 := h3.2; (try dsimp only at *); omega) | (intro h1; exfalso; have h4 := h1.2; (try dsimp only at *); omega) | (intro x h1 h2; exfalso; have h4 := h2.2; (try dsimp only at *); omega) | (intro x h1 h2; exact ⟨_, rfl, h2⟩) | (intro x h1 h2; have h4 := h2.1; have h5 := h2.2; exfalso; omega) | (intro x h1 h2; exact h2.1) | (intro x h1 h2; rcases h2.1 with h3 | h3; exact h3; exfalso; omega) | (intro x h1 h2; rcases h2 with h3 | h3; exact h3; exfalso; omega))
        replace hw := hw.chg k8 (by first | (intro x h1 h2; exact h2) | (intro x h0 h1 h2; exact hS x h1 h2) | (intro x h0 h1 h2; have h3 : _ = _ := h2; subst h3; exact hSR h1.1) | (intro x h1 h2; have h3 : _ = _ := h2; subst h3; assumption) | (intro x h1 h2; have h3 : _ = _ := h2; exfalso; omega) | (intro b h1 h2 h3; have h4 : _ = _ := h3; (try dsimp only at h2); exfalso; omega) | (intro h1; have h2 : _ = _ := h1; exfalso; omega) | (intro h1; have h2 : _ ≤ _ := h1; exfalso; omega) | (intros; exfalso; (try dsimp only at *); omega) | (intro b h1 h2 h3; exfalso; have h4 := h3.2; (try dsimp only at *); omega) | (intro h1; exfalso; have h4 := h1.2; (try dsimp only at *); omega) | (intro x h1 h2; exfalso; have h4 := h2.2; (try dsimp only at *); omega) | (intro x h1 h2; exact ⟨_, rfl, h2⟩) | (intro x h1 h2; have h4 := h2.1; have h5 := h2.2; exfalso; omega) | (intro x h1 h2; exact h2.1) | (intro x h1 h2; rcases h2.1 with h3 | h3; exact h3; exfalso; omega) | (intro x h1 h2; rcases h2 with h3 | h3; exact h3; exfalso; omega))
        refine WL.nil (WX.then_normal (WC.region (WL.move rfl rfl (WL.add64 rfl rfl (by first | omega | (constructor <;> omega)) rfl (WL.assign rfl rfl (WL.nil (WX.block_normal (?_))))))))
        refine WX.then_normal (WC.region (WL.move rfl rfl (WL.add64 rfl rfl (by first | omega | (constructor <;> omega)) rfl (WL.assign rfl rfl (WL.nil (?_))))))
        first
          | (have hs : (!decide (x.1.1 = d)) = true := hc29
             have hs2 : ¬ x.1.1 = d := by simpa using hs
             refine WX.loop_next (i + 1, j + 1, xs.set i x) ⟨rfl, rfl, rfl, rfl, trivial⟩ ⟨⟨by show i + 1 < j + 1; omega, by show j + 1 ≤ _; omega⟩, by show (xs.set i x).length = _; rw [List.length_set, hlen], ?_, ?_, hD, hW8, hw, by omega⟩ (by show ws.length - (j + 1) < ws.length - j; omega)
             ·
               show (xs.set i x).take (i + 1) = stay d (ws.take (j + 1))
               rw [stay_snoc hx, if_neg hs2, ← htk, List.take_add_one, List.take_set_of_le (Nat.le_refl _), List.getElem?_set_self (by omega)]
               rfl
             ·
               intro k hk
               have hk' : j + 1 ≤ k := hk
               show (xs.set i x)[k]? = ws[k]?
               rw [List.getElem?_set_ne (by omega)]
               exact hdr k (by omega))
          | (have hs : (!decide (x.1.1 = d)) = false := hc29
             have hs2 : x.1.1 = d := by simpa using hs
             refine WX.loop_next (i, j + 1, xs) ⟨rfl, rfl, rfl, rfl, trivial⟩ ⟨⟨by show i < j + 1; omega, by show j + 1 ≤ _; omega⟩, hlen, ?_, ?_, hD, hW, hw, by omega⟩ (by show ws.length - (j + 1) < ws.length - j; omega)
             ·
               show xs.take i = stay d (ws.take (j + 1))
               rw [stay_snoc hx, if_pos hs2, htk]
             ·
               intro k hk
               have hk' : j + 1 ≤ k := hk
               exact hdr k (by omega))
      ·
        refine WC.skip (WX.block_normal (WX.then_normal (WC.region (WL.move rfl rfl (WL.add64 rfl rfl (by first | omega | (constructor <;> omega)) rfl (WL.assign rfl rfl (WL.nil (?_))))))))
        first
          | (have hs : (!decide (x.1.1 = d)) = true := hc29
             have hs2 : ¬ x.1.1 = d := by simpa using hs
             refine WX.loop_next (i + 1, j + 1, xs.set i x) ⟨rfl, rfl, rfl, rfl, trivial⟩ ⟨⟨by show i + 1 < j + 1; omega, by show j + 1 ≤ _; omega⟩, by show (xs.set i x).length = _; rw [List.length_set, hlen], ?_, ?_, hD, hW8, hw, by omega⟩ (by show ws.length - (j + 1) < ws.length - j; omega)
             ·
               show (xs.set i x).take (i + 1) = stay d (ws.take (j + 1))
               rw [stay_snoc hx, if_neg hs2, ← htk, List.take_add_one, List.take_set_of_le (Nat.le_refl _), List.getElem?_set_self (by omega)]
               rfl
             ·
               intro k hk
               have hk' : j + 1 ≤ k := hk
               show (xs.set i x)[k]? = ws[k]?
               rw [List.getElem?_set_ne (by omega)]
               exact hdr k (by omega))
          | (have hs : (!decide (x.1.1 = d)) = false := hc29
             have hs2 : x.1.1 = d := by simpa using hs
             refine WX.loop_next (i, j + 1, xs) ⟨rfl, rfl, rfl, rfl, trivial⟩ ⟨⟨by show i < j + 1; omega, by show j + 1 ≤ _; omega⟩, hlen, ?_, ?_, hD, hW, hw, by omega⟩ (by show ws.length - (j + 1) < ws.length - j; omega)
             ·
               show xs.take i = stay d (ws.take (j + 1))
               rw [stay_snoc hx, if_pos hs2, htk]
             ·
               intro k hk
               have hk' : j + 1 ≤ k := hk
               exact hdr k (by omega))
    ·
      refine WL.nil (WX.then_normal (WC.cond_false rfl (WC.exit (WX.then_exit (WX.then_exit (WX.block_here (WX.then_normal (?_))))))))
      refine WC.seq (WC.region (WL.move rfl rfl (WL.move rfl rfl (?_))))
      refine WL.sliceC (e := ewr) (l := i) (h := xs.length) (k := .i64) (j := .i64) Tryd.underlying84 Tryd.sizeOf92 hW.rsl (by rw [hlen]; rfl) (.inl rfl) (.inr ⟨rfl, rfl⟩) ⟨by omega, Nat.le_refl _⟩ rfl ?_
      refine WL.clearTail (e := ewr) (i := i) Tryd.underlying84 Tryd.zeroValue92 rfl (by simp [Value.cells, Value.oneCell']) hW (by rw [List.take_length, List.length_drop]; omega) rfl ?_
      intro w9 z9 hW9 k9
      have zs_k9 := k9.size
      replace hD := hD.chg k9 (by first | (intro x h1 h2; exact h2) | (intro x h0 h1 h2; exact hS x h1 h2) | (intro x h0 h1 h2; have h3 : _ = _ := h2; subst h3; exact hSR h1.1) | (intro x h1 h2; have h3 : _ = _ := h2; subst h3; assumption) | (intro x h1 h2; have h3 : _ = _ := h2; exfalso; omega) | (intro b h1 h2 h3; have h4 : _ = _ := h3; (try dsimp only at h2); exfalso; omega) | (intro h1; have h2 : _ = _ := h1; exfalso; omega) | (intro h1; have h2 : _ ≤ _ := h1; exfalso; omega) | (intros; exfalso; (try dsimp only at *); omega) | (intro b h1 h2 h3; exfalso; have h4 := h3.2; (try dsimp only at *); omega) | (intro h1; exfalso; have h4 := h1.2; (try dsimp only at *); omega) | (intro x h1 h2; exfalso; have h4 := h2.2; (try dsimp only at *); omega) | (intro x h1 h2; exact ⟨_, rfl, h2⟩) | (intro x h1 h2; have h4 := h2.1; have h5 := h2.2; exfalso; omega) | (intro x h1 h2; exact h2.1) | (intro x h1 h2; rcases h2.1 with h3 | h3; exact h3; exfalso; omega) | (intro x h1 h2; rcases h2 with h3 | h3; exact h3; exfalso; omega))
      replace hw := hw.chg k9 (by first | (intro x h1 h2; exact h2) | (intro x h0 h1 h2; exact hS x h1 h2) | (intro x h0 h1 h2; have h3 : _ = _ := h2; subst h3; exact hSR h1.1) | (intro x h1 h2; have h3 : _ = _ := h2; subst h3; assumption) | (intro x h1 h2; have h3 : _ = _ := h2; exfalso; omega) | (intro b h1 h2 h3; have h4 : _ = _ := h3; (try dsimp only at h2); exfalso; omega) | (intro h1; have h2 : _ = _ := h1; exfalso; omega) | (intro h1; have h2 : _ ≤ _ := h1; exfalso; omega) | (intros; exfalso; (try dsimp only at *); omega) | (intro b h1 h2 h3; exfalso; have h4 := h3.2; (try dsimp only at *); omega) | (intro h1; exfalso; have h4 := h1.2; (try dsimp only at *); omega) | (intro x h1 h2; exfalso; have h4 := h2.2; (try dsimp only at *); omega) | (intro x h1 h2; exact ⟨_, rfl, h2⟩) | (intro x h1 h2; have h4 := h2.1; have h5 := h2.2; exfalso; omega) | (intro x h1 h2; exact h2.1) | (intro x h1 h2; rcases h2.1 with h3 | h3; exact h3; exfalso; omega) | (intro x h1 h2; rcases h2 with h3 | h3; exact h3; exfalso; omega))
      refine WL.nil (WX.then_normal (WC.seq (WC.region (WL.move rfl rfl (WL.move rfl rfl (?_))))))
      refine WL.sliceRow (e := ewr) (i := i) Tryd.underlying84 Tryd.sizeOf92 rfl rfl (by omega) rfl ?_
      refine WL.assign rfl rfl (WL.nil (WX.then_normal (WC.ret (?_))))
      refine WX.ret1 (.inl rfl) Tryd.results71 rfl ?_
      first
        | (have hk1 : k = -1 := h12
           rcases hix with ⟨-, hno⟩ | ⟨i0, x0, e0, -⟩
           ·
             rw [stay_all hno]
             exact ⟨_, rfl, rfl, hW.mono (fun x hx => hx.1.1), hw⟩
           ·
             omega)
        | (have hjl : j = ws.length := by omega
           subst hjl
           rw [List.take_length] at htk
           have hil : (stay d ws).length = i := by rw [← htk, List.length_take]; omega
           rw [htk] at hW9
           exact ⟨_, rfl, by rw [hil], hW9.mono (fun x hx => hx.1.1), hw⟩)
end Go.Proofs.YtjeldcjchipdgaaDoor
namespace Go.Proofs.YtjeldcjchipdgaaDoor
open Go.RowKit Go.HL
set_option maxRecDepth 100000

theorem xsm_stay (d : Int) (l : List (Pl × Rw)) : xsm (stay d l) = stay d (xsm l) := by
  unfold stay xsm
  rw [List.filter_map]
  rfl
def forgetS (s : RA) (d : Int) : RA := { s with waits := stay d s.waits }
theorem forgetS_ok {s : RA} (h : s.ok) (d : Int) : (forgetS s d).ok := ⟨h.dn, h.sn, h.gl, h.ll, fun p hp => h.lw p (List.mem_filter.1 hp).1, h.lf, h.nd⟩
theorem forget_calls {A : Nat → Prop} {w : World} {R : Nat} {s : RA} (h : RK A w R s) (d : Int) :
    Calls Tryd.prog 52 [ptr R, vi d].toArray w (Ret fun v w' => v = .tuple #[] ∧ RK A w' R (forgetS s d) ∧ Chg A w w') := by
  have aR := h.aR
  have hok := forgetS_ok h.ok d
  obtain ⟨m, ga, gc, wa, wc, ws, ls, hB, hI, hls, hws⟩ := h.old.ex
  replace hI := hI.open hB
  have lR := hB.lt
  have hw := Chg.refl A w
  refine Calls.of_WC Tryd.func52 rfl Tryd.ntmps52 (by simp) ?_
  refine WC.seq (WC.region (?_))
  refine WL.box rfl rfl ?_
  intro g_1 w_1 hge_1 hlt_1 hb_1 k_1
  have zs_k_1 := k_1.size
  replace hB := hB.pure k_1
  replace hI := hI.pure k_1
  replace hw := hw.pure k_1
  refine WL.nil (WX.then_normal (WC.region (WL.move rfl rfl (WL.move rfl rfl (WL.nilCheck rfl rfl (WL.fieldAddr (fld_86_4) rfl rfl (WL.loadB Tryd.isAgg84 hB rfl rfl rfl (?_))))))))
  refine WL.makeFun rfl rfl ?_
  refine WL.call eg_71 rfl rfl (delete_calls (d := d) hb_1 hI.waits) ?_
  rintro v w2 ⟨rfl, hW2, k2⟩
  have k3 : Chg (fun x => A x ∧ x ≠ R) _ w2 := k2.mono (fun x _ hx => ⟨(hI.waits.at_.eqb hx).1.1, (hI.waits.at_.eqb hx).2⟩)
  have hI2 := hI.setWaits hW2 k2 (fun b hb => hb) (fun p hp => .inl ⟨p, (List.mem_filter.1 hp).1, rfl⟩)
  have zs_k3 := k3.size
  replace hB := hB.chg k3 (by first | (intro x h1 h2; exact h2) | (intro x h0 h1 h2; exact hS x h1 h2) | (intro x h0 h1 h2; have h3 : _ = _ := h2; subst h3; exact hSR h1.1) | (intro x h1 h2; have h3 : _ = _ := h2; subst h3; assumption) | (intro x h1 h2; have h3 : _ = _ := h2; exfalso; omega) | (intro b h1 h2 h3; have h4 : _ = _ := h3; (try dsimp only at h2); exfalso; omega) | (intro h1; have h2 : _ = _ := h1; exfalso; omega) | (intro h1; have h2 : _ ≤ _ := h1; exfalso; omega) | (intros; exfalso; (try dsimp only at *); omega) | (intro b h1 h2 h3; exfalso; have h4 := h3.2; (try dsimp only at *); omega) | (intro h1; exfalso; have h4 := h1.2; (try dsimp only at *); omega) | (intro x h1 h2; exfalso; have h4 := h2.2; (try dsimp only at *); omega) | (intro x h1 h2; exact ⟨_, rfl, h2⟩) | (intro x h1 h2; have h4 := h2.1; have h5 := h2.2; exfalso; omega) | (intro x h1 h2; exact h2.1) | (intro x h1 h2; rcases h2.1 with h3 | h3; exact h3; exfalso; omega) | (intro x h1 h2; rcases h2 with h3 | h3; exact h3; exfalso; omega))
  replace hw := hw.chg k3 (by first | (intro x h1 h2; exact h2) | (intro x h0 h1 h2; exact hS x h1 h2) | (intro x h0 h1 h2; have h3 : _ = _ := h2; subst h3; exact hSR h1.1) | (intro x h1 h2; have h3 : _ = _ := h2; subst h3; assumption) | (intro x h1 h2; have h3 : _ = _ := h2; exfalso; omega) | (intro b h1 h2 h3; have h4 : _ = _ := h3; (try dsimp only at h2); exfalso; omega) | (intro h1; have h2 : _ = _ := h1; exfalso; omega) | (intro h1; have h2 : _ ≤ _ := h1; exfalso; omega) | (intros; exfalso; (try dsimp only at *); omega) | (intro b h1 h2 h3; exfalso; have h4 := h3.2; (try dsimp only at *); omega) | (intro h1; exfalso; have h4 := h1.2; (try dsimp only at *); omega) | (intro x h1 h2; exfalso; have h4 := h2.2; (try dsimp only at *); omega) | (intro x h1 h2; exact ⟨_, rfl, h2⟩) | (intro x h1 h2; have h4 := h2.1; have h5 := h2.2; exfalso; omega) | (intro x h1 h2; exact h2.1) | (intro x h1 h2; rcases h2.1 with h3 | h3; exact h3; exfalso; omega) | (intro x h1 h2; rcases h2 with h3 | h3; exact h3; exfalso; omega))
  refine WL.nilCheck rfl rfl (WL.fieldAddr (fld_86_4) rfl rfl (?_))
  refine WL.store Tryd.sizeOf84 hB rfl rfl rfl rfl ?_
  intro w_2 hs_2 hn_2 k_2
  have zs_k_2 := k_2.size
  replace hw := hw.chg k_2 (by first | (intro x h1 h2; exact h2) | (intro x h0 h1 h2; exact hS x h1 h2) | (intro x h0 h1 h2; have h3 : _ = _ := h2; subst h3; exact hSR h1.1) | (intro x h1 h2; have h3 : _ = _ := h2; subst h3; assumption) | (intro x h1 h2; have h3 : _ = _ := h2; exfalso; omega) | (intro b h1 h2 h3; have h4 : _ = _ := h3; (try dsimp only at h2); exfalso; omega) | (intro h1; have h2 : _ = _ := h1; exfalso; omega) | (intro h1; have h2 : _ ≤ _ := h1; exfalso; omega) | (intros; exfalso; (try dsimp only at *); omega) | (intro b h1 h2 h3; exfalso; have h4 := h3.2; (try dsimp only at *); omega) | (intro h1; exfalso; have h4 := h1.2; (try dsimp only at *); omega) | (intro x h1 h2; exfalso; have h4 := h2.2; (try dsimp only at *); omega) | (intro x h1 h2; exact ⟨_, rfl, h2⟩) | (intro x h1 h2; have h4 := h2.1; have h5 := h2.2; exfalso; omega) | (intro x h1 h2; exact h2.1) | (intro x h1 h2; rcases h2.1 with h3 | h3; exact h3; exfalso; omega) | (intro x h1 h2; rcases h2 with h3 | h3; exact h3; exfalso; omega))
  replace hI2 := hI2.chg k_2 (by first | (intro x h1 h2; exact h2) | (intro x h0 h1 h2; exact hS x h1 h2) | (intro x h0 h1 h2; have h3 : _ = _ := h2; subst h3; exact hSR h1.1) | (intro x h1 h2; have h3 : _ = _ := h2; subst h3; assumption) | (intro x h1 h2; have h3 : _ = _ := h2; exfalso; omega) | (intro b h1 h2 h3; have h4 : _ = _ := h3; (try dsimp only at h2); exfalso; omega) | (intro h1; have h2 : _ = _ := h1; exfalso; omega) | (intro h1; have h2 : _ ≤ _ := h1; exfalso; omega) | (intros; exfalso; (try dsimp only at *); omega) | (intro b h1 h2 h3; exfalso; have h4 := h3.2; (try dsimp only at *); omega) | (intro h1; exfalso; have h4 := h1.2; (try dsimp only at *); omega) | (intro x h1 h2; exfalso; have h4 := h2.2; (try dsimp only at *); omega) | (intro x h1 h2; exact ⟨_, rfl, h2⟩) | (intro x h1 h2; have h4 := h2.1; have h5 := h2.2; exfalso; omega) | (intro x h1 h2; exact h2.1) | (intro x h1 h2; rcases h2.1 with h3 | h3; exact h3; exfalso; omega) | (intro x h1 h2; rcases h2 with h3 | h3; exact h3; exfalso; omega))
  replace hB := hn_2
  refine WL.nil (?_)
  refine WX.ret0 (.inr rfl) Tryd.results52 ?_
  exact ⟨_, rfl, rfl, ⟨aR, hok, m, ga, gc, wa, wc, stay d ws, ls, hB, hI2.mono (fun x hx => hx.1.1), hls, by rw [xsm_stay, ← hws]; rfl⟩, hw⟩
/-! a drive is lost -/
def loseS (s : RA) (d : Int) (b : Bool) : RA := { s with waits := stay d s.waits, gone := s.gone.set d.toNat b }
theorem loseS_ok {s : RA} (h : s.ok) (d : Int) (b : Bool) : (loseS s d b).ok := ⟨h.dn, h.sn, by show (s.gone.set d.toNat b).length = s.dn; rw [List.length_set]; exact h.gl, h.ll, fun p hp => h.lw p (List.mem_filter.1 hp).1, h.lf, h.nd⟩
theorem Lose_calls {A : Nat → Prop} {w : World} {R : Nat} {s : RA} (h : RK A w R s) (d : Int) :
    Calls Tryd.prog 22 [ptr R, vi d].toArray w (Ret fun v w' => v = vi (if isS s d then 0 else 1) ∧ RK A w' R (if isS s d then loseS s d true else s) ∧ Chg A w w') := by
  have aR := h.aR
  have hok := loseS_ok h.ok d true
  have hgl := h.ok.gl
  have hw := Chg.refl A w
  refine Calls.of_WC Tryd.func22 rfl Tryd.ntmps22 (by simp) ?_
  refine WC.seq (WC.region (WL.assign rfl rfl (WL.nil (WX.then_normal (WC.seq (WC.seq (WC.region (?_))))))))
  refine WL.move rfl rfl (WL.move rfl rfl (?_))
  refine WL.call eg_51 rfl rfl (is_calls h d) ?_
  rintro v w1 ⟨rfl, k1⟩
  have zs_k1 := k1.size
  replace h := h.pure k1
  replace hw := hw.pure k1
  by_cases h9 : isS s d
  ·
    rw [show decide (0 ≤ d ∧ d < (s.dn : Int)) = true from decide_eq_true h9]
    refine WL.not rfl rfl (WL.nil (WX.then_normal (WC.cond_false rfl (WC.skip (WX.then_normal (WC.seq (WC.region (?_))))))))
    refine WL.move rfl rfl (WL.move rfl rfl (?_))
    refine WL.call eg_52 rfl rfl (forget_calls h d) ?_
    rintro v w2 ⟨rfl, h2, k2⟩
    have zs_k2 := k2.size
    replace hw := hw.chg k2 (by first | (intro x h1 h2; exact h2) | (intro x h0 h1 h2; exact hS x h1 h2) | (intro x h0 h1 h2; have h3 : _ = _ := h2; subst h3; exact hSR h1.1) | (intro x h1 h2; have h3 : _ = _ := h2; subst h3; assumption) | (intro x h1 h2; have h3 : _ = _ := h2; exfalso; omega) | (intro b h1 h2 h3; have h4 : _ = _ := h3; (try dsimp only at h2); exfalso; omega) | (intro h1; have h2 : _ = _ := h1; exfalso; omega) | (intro h1; have h2 : _ ≤ _ := h1; exfalso; omega) | (intros; exfalso; (try dsimp only at *); omega) | (intro b h1 h2 h3; exfalso; have h4 := h3.2; (try dsimp only at *); omega) | (intro h1; exfalso; have h4 := h1.2; (try dsimp only at *); omega) | (intro x h1 h2; exfalso; have h4 := h2.2; (try dsimp only at *); omega) | (intro x h1 h2; exact ⟨_, rfl, h2⟩) | (intro x h1 h2; have h4 := h2.1; have h5 := h2.2; exfalso; omega) | (intro x h1 h2; exact h2.1) | (intro x h1 h2; rcases h2.1 with h3 | h3; exact h3; exfalso; omega) | (intro x h1 h2; rcases h2 with h3 | h3; exact h3; exfalso; omega))
    obtain ⟨m, ga, gc, wa, wc, ws, ls, hB, hI, hls, hws⟩ := h2.ex
    replace hI := hI.open hB
    have hg0 : d.toNat < s.gone.length := by have h1 := h9.1; have h2 := h9.2; omega
    obtain ⟨g, rfl⟩ := hI.gone.place0 hg0
    have hgR : g ≠ R := (hI.gone.at_ _ rfl).2
    have aG : A g := (hI.gone.at_ _ rfl).1
    refine WL.nil (WX.then_normal (WC.seq (WC.region (WL.move rfl rfl (WL.nilCheck rfl rfl (WL.fieldAddr (fld_86_3) rfl rfl (WL.loadB Tryd.isAgg67 hB rfl rfl rfl (?_))))))))
    refine WL.move rfl rfl (?_)
    refine WL.index (j := d.toNat) Tryd.underlying67 Tryd.sizeOf4 rfl rfl (by have := h9.1; omega) hg0 rfl ?_
    refine WL.storeRow (z := true) d.toNat Tryd.sizeOf4 hI.gone rfl rfl rfl (by show 0 + d.toNat * 1 = d.toNat; omega) hg0 rfl ?_
    intro w8 z8 hG8 k8
    have hI8 := hI.setGone hG8 k8
    have zs_k8 := k8.size
    replace hw := hw.chg k8 (by first | (intro x h1 h2; exact h2) | (intro x h0 h1 h2; exact hS x h1 h2) | (intro x h0 h1 h2; have h3 : _ = _ := h2; subst h3; exact hSR h1.1) | (intro x h1 h2; have h3 : _ = _ := h2; subst h3; assumption) | (intro x h1 h2; have h3 : _ = _ := h2; exfalso; omega) | (intro b h1 h2 h3; have h4 : _ = _ := h3; (try dsimp only at h2); exfalso; omega) | (intro h1; have h2 : _ = _ := h1; exfalso; omega) | (intro h1; have h2 : _ ≤ _ := h1; exfalso; omega) | (intros; exfalso; (try dsimp only at *); omega) | (intro b h1 h2 h3; exfalso; have h4 := h3.2; (try dsimp only at *); omega) | (intro h1; exfalso; have h4 := h1.2; (try dsimp only at *); omega) | (intro x h1 h2; exfalso; have h4 := h2.2; (try dsimp only at *); omega) | (intro x h1 h2; exact ⟨_, rfl, h2⟩) | (intro x h1 h2; have h4 := h2.1; have h5 := h2.2; exfalso; omega) | (intro x h1 h2; exact h2.1) | (intro x h1 h2; rcases h2.1 with h3 | h3; exact h3; exfalso; omega) | (intro x h1 h2; rcases h2 with h3 | h3; exact h3; exfalso; omega))
    replace hB := hB.chg k8 (by first | (intro x h1 h2; exact h2) | (intro x h0 h1 h2; exact hS x h1 h2) | (intro x h0 h1 h2; have h3 : _ = _ := h2; subst h3; exact hSR h1.1) | (intro x h1 h2; have h3 : _ = _ := h2; subst h3; assumption) | (intro x h1 h2; have h3 : _ = _ := h2; exfalso; omega) | (intro b h1 h2 h3; have h4 : _ = _ := h3; (try dsimp only at h2); exfalso; omega) | (intro h1; have h2 : _ = _ := h1; exfalso; omega) | (intro h1; have h2 : _ ≤ _ := h1; exfalso; omega) | (intros; exfalso; (try dsimp only at *); omega) | (intro b h1 h2 h3; exfalso; have h4 := h3.2; (try dsimp only at *); omega) | (intro h1; exfalso; have h4 := h1.2; (try dsimp only at *); omega) | (intro x h1 h2; exfalso; have h4 := h2.2; (try dsimp only at *); omega) | (intro x h1 h2; exact ⟨_, rfl, h2⟩) | (intro x h1 h2; have h4 := h2.1; have h5 := h2.2; exfalso; omega) | (intro x h1 h2; exact h2.1) | (intro x h1 h2; rcases h2.1 with h3 | h3; exact h3; exfalso; omega) | (intro x h1 h2; rcases h2 with h3 | h3; exact h3; exfalso; omega))
    refine WL.nil (WX.then_normal (WC.seq (WC.region (WL.assign rfl rfl (WL.nil (WX.then_normal (WC.ret (?_))))))))
    refine WX.ret1 (.inl rfl) Tryd.results22 rfl ?_
    first
      | (have hh : ¬ isS s d := h9
         rw [if_neg hh, if_neg hh]
         exact ⟨_, rfl, rfl, h, hw⟩)
      | (rw [if_pos h9, if_pos h9]
         refine ⟨_, rfl, rfl, ⟨aR, hok, m, _, gc, wa, wc, ws, ls, Eq.mp (congrArg (Blk _ R 86) ?_) hB, hI8.mono (fun x hx => hx.1), hls, hws⟩, hw⟩
         simp [loseS, forgetS])
  ·
    rw [show decide (0 ≤ d ∧ d < (s.dn : Int)) = false from decide_eq_false h9]
    refine WL.not rfl rfl (WL.nil (WX.then_normal (WC.cond_true rfl (WC.seq (WC.region (WL.assign rfl rfl (WL.nil (?_))))))))
    refine WX.then_normal (WC.ret (WX.then_ret (?_)))
    refine WX.ret1 (.inl rfl) Tryd.results22 rfl ?_
    first
      | (have hh : ¬ isS s d := h9
         rw [if_neg hh, if_neg hh]
         exact ⟨_, rfl, rfl, h, hw⟩)
      | (rw [if_pos h9, if_pos h9]
         refine ⟨_, rfl, rfl, ⟨aR, hok, m, _, gc, wa, wc, ws, ls, Eq.mp (congrArg (Blk _ R 86) ?_) hB, hI8.mono (fun x hx => hx.1), hls, hws⟩, hw⟩
         simp [loseS, forgetS])
/-! a new drive -/
section
variable {K V : Type} [DecidableEq K]
end
end Go.Proofs.YtjeldcjchipdgaaDoor
namespace Go.Proofs.YtjeldcjchipdgaaDoor
open Go.RowKit Go.HL
set_option maxRecDepth 100000

/-! a label's Write -/
/-- behind the first k drives -/
def lwR (s0 : RA) (at_ : Int) (B : List UInt8) : Nat → RA × Nat × Int
  | 0 => (s0, 0, 0)
  | k + 1 =>
    if (lwR s0 at_ B k).2.2 ≠ 0 then lwR s0 at_ B k
    else if writeE (lwR s0 at_ B k).1 k at_ B.length = 0 then (writeS (lwR s0 at_ B k).1 k at_ B, (lwR s0 at_ B k).2.1 + 1, 0)
    else if writeE (lwR s0 at_ B k).1 k at_ B.length = 3 then (writeS (lwR s0 at_ B k).1 k at_ B, (lwR s0 at_ B k).2.1, 0)
    else (writeS (lwR s0 at_ B k).1 k at_ B, 0, writeE (lwR s0 at_ B k).1 k at_ B.length)
theorem lwR_stuck {s0 : RA} {at_ : Int} {B : List UInt8} {k : Nat} (h : (lwR s0 at_ B k).2.2 ≠ 0) (m : Nat) : lwR s0 at_ B (k + m) = lwR s0 at_ B k := by
  induction m with
  | zero => rfl
  | succ m ih => rw [← Nat.add_assoc, lwR, if_pos (by rw [ih]; exact h), ih]
theorem writeS_dn (s : RA) (d a : Int) (b : List UInt8) : (writeS s d a b).dn = s.dn ∧ (writeS s d a b).sn = s.sn ∧ (writeS s d a b).gone = s.gone ∧ (writeS s d a b).waits.length ≤ s.waits.length + 1 := by
  unfold writeS
  split
  · exact ⟨spendS_dn s, spendS_sn s, spendS_gone s, by simp⟩
  · split
    · exact ⟨spendS_dn s, spendS_sn s, spendS_gone s, by rw [spendS_waits]; omega⟩
    · exact ⟨rfl, rfl, rfl, by omega⟩
theorem lwR_dn (s0 : RA) (at_ : Int) (B : List UInt8) (k : Nat) : (lwR s0 at_ B k).1.dn = s0.dn ∧ (lwR s0 at_ B k).1.sn = s0.sn ∧ (lwR s0 at_ B k).1.gone = s0.gone ∧ (lwR s0 at_ B k).1.waits.length ≤ s0.waits.length + k ∧ (lwR s0 at_ B k).2.1 ≤ k := by
  induction k with
  | zero => exact ⟨rfl, rfl, rfl, Nat.le_refl _, Nat.le_refl _⟩
  | succ k ih =>
    obtain ⟨i1, i2, i3, i4, i5⟩ := ih
    obtain ⟨w1, w2, w3, w4⟩ := writeS_dn (lwR s0 at_ B k).1 k at_ B
    rw [lwR]
    split
    · exact ⟨i1, i2, i3, by omega, by omega⟩
    · split
      · exact ⟨by rw [w1, i1], by rw [w2, i2], by rw [w3, i3], by dsimp only; omega, by dsimp only; omega⟩
      · split
        · exact ⟨by rw [w1, i1], by rw [w2, i2], by rw [w3, i3], by dsimp only; omega, by dsimp only; omega⟩
        · exact ⟨by rw [w1, i1], by rw [w2, i2], by rw [w3, i3], by dsimp only; omega, by dsimp only; omega⟩
/-- what a label's Write makes of a rack, and what it answers -/
def lwS (s : RA) (u : UbV) : RA := if 8 < s.sn ∧ encE u = 0 then (lwR s (u.t % 8) (encB u) s.dn).1 else s
def lwN (s : RA) (u : UbV) : Int := if 8 < s.sn ∧ encE u = 0 then (if (lwR s (u.t % 8) (encB u) s.dn).2.2 = 0 then ((lwR s (u.t % 8) (encB u) s.dn).2.1 : Int) else 0) else 0
def lwE (s : RA) (u : UbV) : Int := if ¬ 8 < s.sn then 1 else if encE u ≠ 0 then encE u else if (lwR s (u.t % 8) (encB u) s.dn).2.2 ≠ 0 then (lwR s (u.t % 8) (encB u) s.dn).2.2 else if (lwR s (u.t % 8) (encB u) s.dn).2.1 = 0 then 4 else 0
theorem right_calls {A : Nat → Prop} {w : World} {R : Nat} {s : RA} (h : RK A w R s) : Calls Tryd.prog 42 [ptr R].toArray w (Ret fun v w' => v = .bool (decide (8 < s.sn)) ∧ Chg Nob w w') := by
  have hw := Chg.refl Nob w
  refine Calls.of_WC Tryd.func42 rfl Tryd.ntmps42 (by simp) ?_
  refine WC.seq (WC.region (WL.assign rfl rfl (WL.nil (WX.then_normal (WC.seq (WC.region (WL.move rfl rfl (?_))))))))
  refine WL.call eg_53 rfl rfl (Sectors_calls h) ?_
  rintro v w1 ⟨rfl, k1⟩
  have zs_k1 := k1.size
  replace h := h.pure k1
  replace hw := hw.pure k1
  refine WL.gtr rfl rfl rfl (WL.assign rfl rfl (WL.nil (WX.then_normal (WC.ret (?_)))))
  refine WX.ret1 (.inl rfl) Tryd.results42 rfl ?_
  refine ⟨_, rfl, ?_, hw⟩
  congr 1
  exact decide_eq_decide.2 (by omega)
theorem encE_t {u : UbV} (h : encE u = 0) : rightP u.p ∧ 1 ≤ u.t ∧ secE (uit u) = 0 ∧ (encB u).length = 128 := by
  unfold encE at h
  split at h
  · rename_i hc
    refine ⟨hc.1, hc.2, h, ?_⟩
    rw [encB, if_pos hc, secB_128 h]
  · cases h
theorem lw_right {s : RA} {u : UbV} (h : ¬ 8 < s.sn) : lwS s u = s ∧ lwN s u = 0 ∧ lwE s u = 1 := by
  rw [lwS, lwN, lwE, if_neg (fun x => h x.1), if_neg (fun x => h x.1), if_pos h]
  exact ⟨rfl, rfl, rfl⟩
theorem lw_enc {s : RA} {u : UbV} (h : 8 < s.sn) (hE : encE u ≠ 0) : lwS s u = s ∧ lwN s u = 0 ∧ lwE s u = encE u := by
  rw [lwS, lwN, lwE, if_neg (fun x => hE x.2), if_neg (fun x => hE x.2), if_neg (fun x => x h), if_pos hE]
  exact ⟨rfl, rfl, rfl⟩
theorem lw_stop {s : RA} {u : UbV} {at_ : Int} {B : List UInt8} {k : Nat} (h : 8 < s.sn) (hE : encE u = 0) (ea : at_ = u.t % 8) (eB : B = encB u) (hk : k < s.dn) (h0 : (lwR s at_ B k).2.2 = 0)
    (h1 : writeE (lwR s at_ B k).1 k at_ B.length ≠ 0) (h2 : writeE (lwR s at_ B k).1 k at_ B.length ≠ 3) : lwS s u = writeS (lwR s at_ B k).1 k at_ B ∧ lwN s u = 0 ∧ lwE s u = writeE (lwR s at_ B k).1 k at_ B.length := by
  have e1 : lwR s at_ B (k + 1) = (writeS (lwR s at_ B k).1 k at_ B, 0, writeE (lwR s at_ B k).1 k at_ B.length) := by
    rw [lwR, if_neg (fun h9 => h9 h0), if_neg h1, if_neg h2]
  have e2 : lwR s at_ B s.dn = lwR s at_ B (k + 1) := by
    have := lwR_stuck (s0 := s) (at_ := at_) (B := B) (k := k + 1) (by rw [e1]; exact h1) (s.dn - (k + 1))
    rw [show k + 1 + (s.dn - (k + 1)) = s.dn from by omega] at this
    exact this
  unfold lwS lwN lwE
  rw [← ea, ← eB, e2, e1]
  simp [h, hE, h1]
theorem lw_end {s : RA} {u : UbV} {at_ : Int} {B : List UInt8} (h : 8 < s.sn) (hE : encE u = 0) (ea : at_ = u.t % 8) (eB : B = encB u) (h0 : (lwR s at_ B s.dn).2.2 = 0) :
    lwS s u = (lwR s at_ B s.dn).1 ∧ lwN s u = ((lwR s at_ B s.dn).2.1 : Int) ∧ lwE s u = if (lwR s at_ B s.dn).2.1 = 0 then 4 else 0 := by
  unfold lwS lwN lwE
  rw [← ea, ← eB]
  simp [h, hE, h0]
set_option maxHeartbeats 2000000 in
theorem lWrite_in {A : Nat → Prop} {w : World} {R : Nat} {s : RA} (h : RK A w R s) (hA : ∀ x, A x → x < w.heap.size) (u : UbV) (hu : WfU u) (hn : s.waits.length ≤ 90000) :
    Calls Tryd.prog 16 [ptr R, .agg (eub.f u).toArray].toArray w (Ret fun v w' => v = .tuple #[vi (lwN s u), vi (lwE s u)] ∧ RK (fun x => A x ∨ w.heap.size ≤ x) w' R (lwS s u) ∧ Chg A w w') := by
  have hw := Chg.refl A w
  have hdn := h.ok.dn
  have lR := hA R h.aR
  obtain ⟨B, eB⟩ : ∃ B, B = encB u := ⟨_, rfl⟩
  refine Calls.of_WC Tryd.func16 rfl Tryd.ntmps16 (by simp) ?_
  refine WC.seq (WC.region (?_))
  refine WL.box rfl rfl ?_
  intro g_1 w_1 hge_1 hlt_1 hb_1 k_1
  have zs_k_1 := k_1.size
  replace h := h.pure k_1
  replace hw := hw.pure k_1
  refine WL.assign rfl rfl (WL.assign rfl rfl (WL.nil (WX.then_normal (WC.seq (WC.seq (WC.region (WL.move rfl rfl (?_))))))))
  refine WL.call eg_42 rfl rfl (right_calls h) ?_
  rintro v w1 ⟨rfl, k1⟩
  have zs_k1 := k1.size
  replace h := h.pure k1
  replace hw := hw.pure k1
  replace hb_1 := hb_1.pure k1
  by_cases h12 : 8 < s.sn
  ·
    rw [decide_eq_true h12]
    refine WL.not rfl rfl (WL.nil (WX.then_normal (WC.cond_false rfl (WC.skip (WX.then_normal (WC.seq (WC.region (?_))))))))
    have hb1 : Blk _ g_1 25 (eub.f u) := hb_1
    refine WL.loads (eub.f u) Tryd.isAgg25 Tryd.sizeOf25 rfl (fun j v hj => by rw [Nat.zero_add]; exact hb1.cell hj) rfl rfl ?_
    refine WL.call eg_12 rfl rfl (encU_calls u _ hu) ?_
    rintro v w2 ⟨⟨ao, c, rfl, hq⟩, k2⟩
    rw [← eB] at hq ⊢
    have zs_k2 := k2.size
    replace h := h.pure k2
    replace hw := hw.pure k2
    replace hb1 := hb1.pure k2
    replace hq := hq.lt
    refine WL.move rfl rfl (WL.extract rfl rfl rfl (WL.extract rfl rfl rfl (WL.assign rfl rfl (WL.assign rfl rfl (WL.nil (WX.then_normal (WC.seq (?_))))))))
    refine WC.seq (WC.region (WL.move rfl rfl (?_)))
    refine WL.neq? rfl rfl rfl (fun h20 => ?_) (fun h20 => ?_)
    ·
      refine WL.nil (WX.then_normal (WC.cond_true rfl (WC.seq (WC.region (WL.move rfl rfl (WL.assign rfl rfl (WL.assign rfl rfl (?_))))))))
      refine WL.nil (WX.then_normal (WC.ret (WX.then_ret (?_))))
      refine WX.ret2 (.inl rfl) Tryd.results16 rfl rfl ?_
      first
        | (have hz : ¬ 8 < s.sn := h12
           obtain ⟨e1, e2, e3⟩ := lw_right (u := u) hz
           rw [e1, e2, e3]
           exact ⟨_, rfl, rfl, h.mono (fun x hx => .inl hx), hw⟩)
        | (have hz : encE u ≠ 0 := h20
           obtain ⟨e1, e2, e3⟩ := lw_enc h12 hz
           rw [e1, e2, e3]
           exact ⟨_, rfl, rfl, h.mono (fun x hx => .inl hx), hw⟩)
        | (have hz : writeE (lwR s at_ B k).1 k at_ B.length ≠ 0 := h37
           have hz2 : writeE (lwR s at_ B k).1 k at_ B.length ≠ 3 := h41
           obtain ⟨e1, e2, e3⟩ := lw_stop h12 h20 eat eB (k := k) (by omega) hk0 hz hz2
           rw [e1, e2, e3]
           exact ⟨_, rfl, rfl, h5.mono (fun x hx => by rcases hx with h6 | h6; exact .inl h6; right; omega), hw5⟩)
        | (obtain rfl : k = s.dn := by omega
           obtain ⟨e1, e2, e3⟩ := lw_end h12 h20 eat eB hk0
           have hmo := h.mono (A' := fun x => A x ∨ w.heap.size ≤ x) (fun x hx => by rcases hx with h6 | h6; exact .inl h6; right; omega)
           by_cases hc : (lwR s at_ B s.dn).2.1 = 0
           ·
             rw [e1, e2, e3, if_pos hc, hc]
             first
               | exact ⟨_, rfl, rfl, hmo, hw⟩
               | (exfalso; omega)
           ·
             rw [e1, e2, e3, if_neg hc]
             first
               | exact ⟨_, rfl, rfl, hmo, hw⟩
               | (exfalso; omega))
    ·
      refine WL.nil (WX.then_normal (WC.cond_false rfl (WC.skip (WX.then_normal (WC.seq (WC.region (WL.assign rfl rfl (?_))))))))
      refine WL.nil (WX.then_normal (WC.seq (WC.seq (WC.region (WL.move rfl rfl (?_))))))
      refine WL.call eg_43 rfl rfl (Drives_calls h) ?_
      rintro v w4 ⟨rfl, k4⟩
      have zs_k4 := k4.size
      replace h := h.pure k4
      replace hw := hw.pure k4
      replace hb1 := hb1.pure k4
      replace hq := hq.pure k4
      refine WL.move rfl rfl (WL.nil (WX.then_normal (WC.block (?_))))
      obtain ⟨t1, t2, t3, t4⟩ := encE_t h20
      rw [← eB] at t4
      obtain ⟨n0, en0⟩ : ∃ n0, n0 = w2.heap.size := ⟨_, rfl⟩
      obtain ⟨at_, eat⟩ : ∃ a : Int, a = u.t % 8 := ⟨_, rfl⟩
      have hat : 0 ≤ at_ ∧ at_ < 8 := by omega
      refine WC.loop (σ := Nat) (fun k => [(0, ptr R), (3, ptr g_1), (6, .slice ao B.length c), (8, vi ((lwR s at_ B k).2.1 : Int)), (23, vi (s.dn : Int)), (24, vi (k : Int))])
        (fun k w' => k ≤ s.dn ∧ (lwR s at_ B k).2.2 = 0 ∧ n0 ≤ w'.heap.size ∧ Blk w' g_1 25 (eub.f u) ∧ Row (fun x => w.heap.size ≤ x ∧ x < n0) w' 5 eb ao c B ∧ RK (fun x => A x ∨ n0 ≤ x) w' R (lwR s at_ B k).1 ∧ Chg A w w') (fun k => s.dn - k) 0 ⟨rfl, rfl, rfl, rfl, rfl, rfl, trivial⟩
        ⟨Nat.zero_le _, rfl, by omega, hb1, hq.mono (fun x hx => by omega), h.mono (fun x hx => .inl hx), hw⟩ ?_
      clear hb1 hq h hw
      rintro k w3 ⟨hk, hk0, hn3, hb1, hq, h, hw⟩
      obtain ⟨d1, d2, d3, d4, d5⟩ := lwR_dn s at_ B k
      refine WC.seq (WC.region (?_))
      refine WL.lss? rfl rfl rfl (fun h25 => ?_) (fun h25 => ?_)
      ·
        refine WL.nil (WX.then_normal (WC.seq (WC.cond_true rfl (WC.skip (WX.then_normal (WC.seq (WC.block (?_))))))))
        refine WC.seq (WC.region (WL.move rfl rfl (WL.assign rfl rfl (WL.nil (WX.then_normal (WC.seq (WC.region (?_))))))))
        refine WL.move rfl rfl (WL.move rfl rfl (WL.fieldAddr (fld_25_0) rfl rfl (WL.loadB Tryd.isAgg3 hb1 rfl rfl rfl (WL.rem64i rfl rfl (by constructor <;> omega) rfl (WL.move rfl rfl (?_))))))
        have hn9 : (lwR s at_ B k).1.waits.length ≤ 100000 := by omega
        have hR0 := hA R
        have aR0 : R < w.heap.size := lR
        have hq2 : RSl (fun x => w.heap.size ≤ x ∧ x < n0) w3 eb ao c B := hq.rsl
        rw [← eat]
        refine WL.call eg_44 rfl rfl (Write_calls h k at_ hq2 (fun x h1 h2 => absurd (h2 ▸ h1.1) (Nat.not_le.2 aR0)) hn9) ?_
        rintro v w5 ⟨rfl, h5, k5⟩
        have z5 := k5.size
        replace h5 : RK (fun x => A x ∨ n0 ≤ x) w5 R (writeS (lwR s at_ B k).1 k at_ B) := h5.mono (fun x hx => by rcases hx with h6 | h6; exact h6; right; omega)
        have hq5 := hq.chg k5 (fun b h1 h2 h3 => by rcases h3 with h4 | h4; have := hA b h4; omega; omega)
        have hb5 := hb1.chg k5 (fun h3 => by rcases h3 with h4 | h4; have := hA _ h4; omega; omega)
        have hw5 : Chg A w w5 := hw.trans k5 (fun x h1 h2 => by rcases h2 with h4 | h4; exact h4; exfalso; omega)
        refine WL.assign rfl rfl (WL.nil (WX.then_normal (WC.seq (WC.region (WL.move rfl rfl (WL.nil (WX.then_normal (?_))))))))
        refine WC.block (WC.seq (WC.region (?_)))
        refine WL.eql? rfl rfl rfl (fun h37 => ?_) (fun h37 => ?_)
        ·
          refine WL.assign rfl rfl (WL.nil (WX.then_normal (WC.cond_true rfl (WC.region (WL.move rfl rfl (WL.add64 rfl rfl (by first | omega | (constructor <;> omega)) rfl (WL.assign rfl rfl (?_))))))))
          refine WL.nil (WX.block_normal (WX.block_normal (WX.then_normal (WC.region (WL.add64 rfl rfl (by first | omega | (constructor <;> omega)) rfl (WL.move rfl rfl (WL.nil (?_))))))))
          first
            | (have hz : writeE (lwR s at_ B k).1 k at_ B.length = 0 := h37
               have e1 : lwR s at_ B (k + 1) = (writeS (lwR s at_ B k).1 k at_ B, (lwR s at_ B k).2.1 + 1, 0) := by
                 rw [lwR, if_neg (fun h9 => h9 hk0), if_pos hz]
               have f1 : (lwR s at_ B (k + 1)).2.2 = 0 := by rw [e1]
               have f2 : RK (fun x => A x ∨ n0 ≤ x) w5 R (lwR s at_ B (k + 1)).1 := by rw [e1]; exact h5
               have f3 : ((lwR s at_ B (k + 1)).2.1 : Int) = ((lwR s at_ B k).2.1 : Int) + 1 := by rw [e1]; rfl
               refine WX.loop_next (k + 1) ⟨rfl, rfl, rfl, ?_, rfl, rfl, trivial⟩ ⟨by omega, f1, by omega, hb5, hq5, f2, hw5⟩ (by show _ - _ < _ - _; omega)
               rw [f3]
               rfl)
            | (have hz : writeE (lwR s at_ B k).1 k at_ B.length ≠ 0 := h37
               have hz2 : writeE (lwR s at_ B k).1 k at_ B.length = 3 := h41
               have e1 : lwR s at_ B (k + 1) = (writeS (lwR s at_ B k).1 k at_ B, (lwR s at_ B k).2.1, 0) := by
                 rw [lwR, if_neg (fun h9 => h9 hk0), if_neg hz, if_pos hz2]
               have f1 : (lwR s at_ B (k + 1)).2.2 = 0 := by rw [e1]
               have f2 : RK (fun x => A x ∨ n0 ≤ x) w5 R (lwR s at_ B (k + 1)).1 := by rw [e1]; exact h5
               have f3 : ((lwR s at_ B (k + 1)).2.1 : Int) = ((lwR s at_ B k).2.1 : Int) := by rw [e1]
               refine WX.loop_next (k + 1) ⟨rfl, rfl, rfl, ?_, rfl, rfl, trivial⟩ ⟨by omega, f1, by omega, hb5, hq5, f2, hw5⟩ (by show _ - _ < _ - _; omega)
               rw [f3]
               rfl)
        ·
          refine WL.assign rfl rfl (WL.nil (WX.then_normal (WC.cond_false rfl (WC.seq (WC.region (?_))))))
          refine WL.eql? rfl rfl rfl (fun h41 => ?_) (fun h41 => ?_)
          ·
            refine WL.assign rfl rfl (WL.nil (WX.then_normal (WC.cond_true rfl (WC.skip (WX.block_normal (WX.block_normal (WX.then_normal (?_))))))))
            refine WC.region (WL.add64 rfl rfl (by first | omega | (constructor <;> omega)) rfl (WL.move rfl rfl (WL.nil (?_))))
            first
              | (have hz : writeE (lwR s at_ B k).1 k at_ B.length = 0 := h37
                 have e1 : lwR s at_ B (k + 1) = (writeS (lwR s at_ B k).1 k at_ B, (lwR s at_ B k).2.1 + 1, 0) := by
                   rw [lwR, if_neg (fun h9 => h9 hk0), if_pos hz]
                 have f1 : (lwR s at_ B (k + 1)).2.2 = 0 := by rw [e1]
                 have f2 : RK (fun x => A x ∨ n0 ≤ x) w5 R (lwR s at_ B (k + 1)).1 := by rw [e1]; exact h5
                 have f3 : ((lwR s at_ B (k + 1)).2.1 : Int) = ((lwR s at_ B k).2.1 : Int) + 1 := by rw [e1]; rfl
                 refine WX.loop_next (k + 1) ⟨rfl, rfl, rfl, ?_, rfl, rfl, trivial⟩ ⟨by omega, f1, by omega, hb5, hq5, f2, hw5⟩ (by show _ - _ < _ - _; omega)
                 rw [f3]
                 rfl)
              | (have hz : writeE (lwR s at_ B k).1 k at_ B.length ≠ 0 := h37
                 have hz2 : writeE (lwR s at_ B k).1 k at_ B.length = 3 := h41
                 have e1 : lwR s at_ B (k + 1) = (writeS (lwR s at_ B k).1 k at_ B, (lwR s at_ B k).2.1, 0) := by
                   rw [lwR, if_neg (fun h9 => h9 hk0), if_neg hz, if_pos hz2]
                 have f1 : (lwR s at_ B (k + 1)).2.2 = 0 := by rw [e1]
                 have f2 : RK (fun x => A x ∨ n0 ≤ x) w5 R (lwR s at_ B (k + 1)).1 := by rw [e1]; exact h5
                 have f3 : ((lwR s at_ B (k + 1)).2.1 : Int) = ((lwR s at_ B k).2.1 : Int) := by rw [e1]
                 refine WX.loop_next (k + 1) ⟨rfl, rfl, rfl, ?_, rfl, rfl, trivial⟩ ⟨by omega, f1, by omega, hb5, hq5, f2, hw5⟩ (by show _ - _ < _ - _; omega)
                 rw [f3]
                 rfl)
          ·
            refine WL.assign rfl rfl (WL.nil (WX.then_normal (WC.cond_false rfl (WC.seq (WC.region (WL.move rfl rfl (WL.assign rfl rfl (?_))))))))
            refine WL.assign rfl rfl (WL.nil (WX.then_normal (WC.ret (WX.block_ret (WX.block_ret (WX.then_ret (WX.then_ret (?_))))))))
            refine WX.block_ret (WX.then_ret (?_))
            refine WX.ret2 (.inl rfl) Tryd.results16 rfl rfl ?_
            first
              | (have hz : ¬ 8 < s.sn := h12
                 obtain ⟨e1, e2, e3⟩ := lw_right (u := u) hz
                 rw [e1, e2, e3]
                 exact ⟨_, rfl, rfl, h.mono (fun x hx => .inl hx), hw⟩)
              | (have hz : encE u ≠ 0 := h20
                 obtain ⟨e1, e2, e3⟩ := lw_enc h12 hz
                 rw [e1, e2, e3]
                 exact ⟨_, rfl, rfl, h.mono (fun x hx => .inl hx), hw⟩)
              | (have hz : writeE (lwR s at_ B k).1 k at_ B.length ≠ 0 := h37
                 have hz2 : writeE (lwR s at_ B k).1 k at_ B.length ≠ 3 := h41
                 obtain ⟨e1, e2, e3⟩ := lw_stop h12 h20 eat eB (k := k) (by omega) hk0 hz hz2
                 rw [e1, e2, e3]
                 exact ⟨_, rfl, rfl, h5.mono (fun x hx => by rcases hx with h6 | h6; exact .inl h6; right; omega), hw5⟩)
              | (obtain rfl : k = s.dn := by omega
                 obtain ⟨e1, e2, e3⟩ := lw_end h12 h20 eat eB hk0
                 have hmo := h.mono (A' := fun x => A x ∨ w.heap.size ≤ x) (fun x hx => by rcases hx with h6 | h6; exact .inl h6; right; omega)
                 by_cases hc : (lwR s at_ B s.dn).2.1 = 0
                 ·
                   rw [e1, e2, e3, if_pos hc, hc]
                   first
                     | exact ⟨_, rfl, rfl, hmo, hw⟩
                     | (exfalso; omega)
                 ·
                   rw [e1, e2, e3, if_neg hc]
                   first
                     | exact ⟨_, rfl, rfl, hmo, hw⟩
                     | (exfalso; omega))
      ·
        refine WL.nil (WX.then_normal (WC.seq (WC.cond_false rfl (WC.exit (WX.then_exit (WX.then_exit (WX.block_here (?_))))))))
        refine WX.then_normal (WC.seq (WC.seq (WC.region (WL.move rfl rfl (?_)))))
        refine WL.eql? rfl rfl rfl (fun h44 => ?_) (fun h44 => ?_)
        ·
          refine WL.nil (WX.then_normal (WC.cond_true rfl (WC.seq (WC.region (WL.assign rfl rfl (WL.assign rfl rfl (WL.nil (?_))))))))
          refine WX.then_normal (WC.ret (WX.then_ret (?_)))
          refine WX.ret2 (.inl rfl) Tryd.results16 rfl rfl ?_
          first
            | (have hz : ¬ 8 < s.sn := h12
               obtain ⟨e1, e2, e3⟩ := lw_right (u := u) hz
               rw [e1, e2, e3]
               exact ⟨_, rfl, rfl, h.mono (fun x hx => .inl hx), hw⟩)
            | (have hz : encE u ≠ 0 := h20
               obtain ⟨e1, e2, e3⟩ := lw_enc h12 hz
               rw [e1, e2, e3]
               exact ⟨_, rfl, rfl, h.mono (fun x hx => .inl hx), hw⟩)
            | (have hz : writeE (lwR s at_ B k).1 k at_ B.length ≠ 0 := h37
               have hz2 : writeE (lwR s at_ B k).1 k at_ B.length ≠ 3 := h41
               obtain ⟨e1, e2, e3⟩ := lw_stop h12 h20 eat eB (k := k) (by omega) hk0 hz hz2
               rw [e1, e2, e3]
               exact ⟨_, rfl, rfl, h5.mono (fun x hx => by rcases hx with h6 | h6; exact .inl h6; right; omega), hw5⟩)
            | (obtain rfl : k = s.dn := by omega
               obtain ⟨e1, e2, e3⟩ := lw_end h12 h20 eat eB hk0
               have hmo := h.mono (A' := fun x => A x ∨ w.heap.size ≤ x) (fun x hx => by rcases hx with h6 | h6; exact .inl h6; right; omega)
               by_cases hc : (lwR s at_ B s.dn).2.1 = 0
               ·
                 rw [e1, e2, e3, if_pos hc, hc]
                 first
                   | exact ⟨_, rfl, rfl, hmo, hw⟩
                   | (exfalso; omega)
               ·
                 rw [e1, e2, e3, if_neg hc]
                 first
                   | exact ⟨_, rfl, rfl, hmo, hw⟩
                   | (exfalso; omega))
        ·
          refine WL.nil (WX.then_normal (WC.cond_false rfl (WC.skip (WX.then_normal (WC.seq (WC.region (WL.move rfl rfl (?_))))))))
          refine WL.assign rfl rfl (WL.assign rfl rfl (WL.nil (WX.then_normal (WC.ret (?_)))))
          refine WX.ret2 (.inl rfl) Tryd.results16 rfl rfl ?_
          first
            | (have hz : ¬ 8 < s.sn := h12
               obtain ⟨e1, e2, e3⟩ := lw_right (u := u) hz
               rw [e1, e2, e3]
               exact ⟨_, rfl, rfl, h.mono (fun x hx => .inl hx), hw⟩)
            | (have hz : encE u ≠ 0 := h20
               obtain ⟨e1, e2, e3⟩ := lw_enc h12 hz
               rw [e1, e2, e3]
               exact ⟨_, rfl, rfl, h.mono (fun x hx => .inl hx), hw⟩)
            | (have hz : writeE (lwR s at_ B k).1 k at_ B.length ≠ 0 := h37
               have hz2 : writeE (lwR s at_ B k).1 k at_ B.length ≠ 3 := h41
               obtain ⟨e1, e2, e3⟩ := lw_stop h12 h20 eat eB (k := k) (by omega) hk0 hz hz2
               rw [e1, e2, e3]
               exact ⟨_, rfl, rfl, h5.mono (fun x hx => by rcases hx with h6 | h6; exact .inl h6; right; omega), hw5⟩)
            | (obtain rfl : k = s.dn := by omega
               obtain ⟨e1, e2, e3⟩ := lw_end h12 h20 eat eB hk0
               have hmo := h.mono (A' := fun x => A x ∨ w.heap.size ≤ x) (fun x hx => by rcases hx with h6 | h6; exact .inl h6; right; omega)
               by_cases hc : (lwR s at_ B s.dn).2.1 = 0
               ·
                 rw [e1, e2, e3, if_pos hc, hc]
                 first
                   | exact ⟨_, rfl, rfl, hmo, hw⟩
                   | (exfalso; omega)
               ·
                 rw [e1, e2, e3, if_neg hc]
                 first
                   | exact ⟨_, rfl, rfl, hmo, hw⟩
                   | (exfalso; omega))
  ·
    rw [decide_eq_false h12]
    refine WL.not rfl rfl (WL.nil (WX.then_normal (WC.cond_true rfl (WC.seq (WC.region (WL.assign rfl rfl (WL.assign rfl rfl (?_))))))))
    refine WL.nil (WX.then_normal (WC.ret (WX.then_ret (?_))))
    refine WX.ret2 (.inl rfl) Tryd.results16 rfl rfl ?_
    first
      | (have hz : ¬ 8 < s.sn := h12
         obtain ⟨e1, e2, e3⟩ := lw_right (u := u) hz
         rw [e1, e2, e3]
         exact ⟨_, rfl, rfl, h.mono (fun x hx => .inl hx), hw⟩)
      | (have hz : encE u ≠ 0 := h20
         obtain ⟨e1, e2, e3⟩ := lw_enc h12 hz
         rw [e1, e2, e3]
         exact ⟨_, rfl, rfl, h.mono (fun x hx => .inl hx), hw⟩)
      | (have hz : writeE (lwR s at_ B k).1 k at_ B.length ≠ 0 := h37
         have hz2 : writeE (lwR s at_ B k).1 k at_ B.length ≠ 3 := h41
         obtain ⟨e1, e2, e3⟩ := lw_stop h12 h20 eat eB (k := k) (by omega) hk0 hz hz2
         rw [e1, e2, e3]
         exact ⟨_, rfl, rfl, h5.mono (fun x hx => by rcases hx with h6 | h6; exact .inl h6; right; omega), hw5⟩)
      | (obtain rfl : k = s.dn := by omega
         obtain ⟨e1, e2, e3⟩ := lw_end h12 h20 eat eB hk0
         have hmo := h.mono (A' := fun x => A x ∨ w.heap.size ≤ x) (fun x hx => by rcases hx with h6 | h6; exact .inl h6; right; omega)
         by_cases hc : (lwR s at_ B s.dn).2.1 = 0
         ·
           rw [e1, e2, e3, if_pos hc, hc]
           first
             | exact ⟨_, rfl, rfl, hmo, hw⟩
             | (exfalso; omega)
         ·
           rw [e1, e2, e3, if_neg hc]
           first
             | exact ⟨_, rfl, rfl, hmo, hw⟩
             | (exfalso; omega))
theorem lWrite_calls {A : Nat → Prop} {w : World} {R : Nat} {s : RA} (h : RK A w R s) (u : UbV) (hu : WfU u) (hn : s.waits.length ≤ 90000) :
    Calls Tryd.prog 16 [ptr R, .agg (eub.f u).toArray].toArray w (Ret fun v w' => v = .tuple #[vi (lwN s u), vi (lwE s u)] ∧ RK (fun x => A x ∨ w.heap.size ≤ x) w' R (lwS s u) ∧ Chg A w w') := by
  refine (lWrite_in h.old (fun x hx => hx.2) u hu hn).mono ?_
  rintro e w' ⟨v, rfl, rfl, hR, k⟩
  exact ⟨_, rfl, rfl, hR.mono (fun x hx => hx.elim (fun h => .inl h.1) .inr), k.mono (fun x _ hx => hx.1)⟩
end Go.Proofs.YtjeldcjchipdgaaDoor
