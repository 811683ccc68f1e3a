import Derived.Test.YtfkaioldfmapjaaPh
namespace Go.Proofs.Ytfkaioldfmapjaa
open Go.RowKit Go.HL

theorem eqg_item : Try.prog.eqGuardType Try.prog.depth 37 = false := by kernel_rfl
theorem eq_item (a b : Item) (w : World) : (Op.equalIn 10000 37 (.agg (eit.f a).toArray) (.agg (eit.f b).toArray)).run Try.prog w = .ok (decide (a = b)) w := by
  refine eqA_of (d := 9999) Try.underlying37 (by kernel_rfl) ?_
  have h3 : (decide (a.kind = b.kind) && (decide (a.n = b.n) && (decide (a.s = b.s) && true))) = decide (a = b) := by
    have : decide (a = b) = decide (a.kind = b.kind ∧ a.n = b.n ∧ a.s = b.s) := decide_eq_decide.2 (Item.eq_iff a b).symm
    rw [this]
    simp [Bool.decide_and]
  rw [← h3]
  refine eqf_cons rfl (part1 Try.sizeOf3 Try.isAgg3 rfl) (part1 Try.sizeOf3 Try.isAgg3 rfl) (run_equalIn_int w 9998 _ _ _ _ _ Try.underlying3) ?_
  refine eqf_cons rfl (part1 Try.sizeOf3 Try.isAgg3 rfl) (part1 Try.sizeOf3 Try.isAgg3 rfl) (run_equalIn_int w 9998 _ _ _ _ _ Try.underlying3) ?_
  refine eqf_cons rfl (part1 Try.sizeOf9 Try.isAgg9 rfl) (part1 Try.sizeOf9 Try.isAgg9 rfl) (by rw [← beq_bytes]; exact run_equalIn_string w 9998 _ _ _ Try.underlying9) eqf_nil

theorem same_calls {S : Nat → Prop} {w : World} {aa ab : Option Addr} {ca cb : Nat} {a b : List Item} (ha : RSl S w eit aa ca a) (hb : RSl S w eit ab cb b) (hl : a.length ≤ 9223372036854775807) :
    Calls Try.prog 18 [.slice aa a.length ca, .slice ab b.length cb].toArray w (Ret fun v w' => v = .bool (decide (a = b)) ∧ Chg Nob w w') := by
  have hw := Chg.refl Nob w
  refine Calls.of_WC Try.func18 rfl Try.ntmps18 (by simp) ?_
  refine WC.seq (WC.region (WL.assign rfl rfl (WL.nil (WX.then_normal (WC.seq (WC.seq (WC.region (?_))))))))
  refine WL.move rfl rfl (WL.len Try.underlying22 rfl rfl (WL.move rfl rfl (WL.len Try.underlying22 rfl rfl (?_))))
  refine WL.neq? rfl rfl rfl (fun h10 => ?_) (fun h10 => ?_)
  ·
    refine WL.nil (WX.then_normal (WC.cond_true rfl (WC.seq (WC.region (WL.assign rfl rfl (WL.nil (WX.then_normal (?_))))))))
    refine WC.ret (WX.then_ret (?_))
    refine WX.ret1 (.inl rfl) Try.results18 rfl ?_
    refine ⟨_, rfl, ?_, hw⟩
    first
      | (have : a ≠ b := fun h => by rw [h] at h10; exact h10 rfl
         rw [decide_eq_false this])
      | (have : a ≠ b := fun h => by rw [h, hy] at hx; injection hx with hx; exact h25 hx.symm
         rw [decide_eq_false this])
      | (rw [List.take_of_length_le (by omega), List.take_of_length_le (by omega)] at he
         rw [decide_eq_true he])
  ·
    refine WL.nil (WX.then_normal (WC.cond_false rfl (WC.skip (WX.then_normal (WC.seq (WC.seq (WC.region (?_))))))))
    refine WL.assign rfl rfl (WL.nil (WX.then_normal (WC.block (?_))))
    refine WC.loop (σ := Nat) (fun k => [(0, .slice aa a.length ca), (1, .slice ab b.length cb), (5, vi k)])
      (fun k w' => k ≤ a.length ∧ a.take k = b.take k ∧ Chg Nob w w') (fun k => a.length - k) 0 ⟨rfl, rfl, rfl, trivial⟩ ⟨Nat.zero_le _, by simp, hw⟩ ?_
    clear hw
    rintro k w1 ⟨hk, he, hw⟩
    replace ha := ha.pure hw
    replace hb := hb.pure hw
    refine WC.seq (WC.seq (WC.region (WL.move rfl rfl (WL.move rfl rfl (WL.len Try.underlying22 rfl rfl (?_))))))
    refine WL.lss? rfl rfl rfl (fun h14 => ?_) (fun h14 => ?_)
    ·
      refine WL.nil (WX.then_normal (WC.cond_true rfl (WC.skip (WX.then_normal (WC.seq (WC.block (WC.seq (?_))))))))
      obtain ⟨x, hx⟩ : ∃ x, a[k]? = some x := ⟨_, List.getElem?_eq_getElem (by omega)⟩
      obtain ⟨y, hy⟩ : ∃ y, b[k]? = some y := ⟨_, List.getElem?_eq_getElem (by omega)⟩
      obtain ⟨b1, o1, rfl⟩ := ha.place hx
      obtain ⟨b2, o2, rfl⟩ := hb.place hy
      refine WC.draw (Nob) [0, 1, 2, 3, 4, 5, 6, 7, 8] [] mixed rfl rfl (fun wd_1 kd_1 zd_1 => ?_)
      have zs_kd_1 := kd_1.size
      replace ha := ha.pure kd_1
      replace hb := hb.pure kd_1
      replace hw := hw.pure kd_1
      apply DQ.step (E' := [(0, _)])
      case ho => rfl
      case hs => exact ⟨rfl, trivial⟩
      case hk => rfl
      case h1 =>
        intro wq_2 kq_2
        refine WL.move rfl rfl (?_)
        refine WL.nil ?_
        exact WX.one ⟨rfl, by first | exact Chg.refl _ _ | assumption⟩
      apply DQ.step (E' := [(5, _)])
      case ho => rfl
      case hs => exact ⟨rfl, trivial⟩
      case hk => rfl
      case h1 =>
        intro wq_3 kq_3
        refine WL.move rfl rfl (?_)
        refine WL.nil ?_
        exact WX.one ⟨rfl, by first | exact Chg.refl _ _ | assumption⟩
      apply DQ.step (E' := [(17, _), (18, _)])
      case ho => rfl
      case hs => exact ⟨rfl, rfl, trivial⟩
      case hk => rfl
      case h1 =>
        intro wq_4 kq_4
        have zs_kq_4 := kq_4.size
        replace ha := ha.pure kq_4
        replace hb := hb.pure kq_4
        replace hw := hw.pure kq_4
        refine WL.indexC ha Try.underlying22 Try.sizeOf37 rfl rfl ⟨hx, rfl⟩ rfl ?_
        refine WL.nil ?_
        exact WX.one ⟨rfl, by first | exact Chg.refl _ _ | assumption⟩
      apply DQ.step (E' := [(19, _)])
      case ho => rfl
      case hs => exact ⟨rfl, trivial⟩
      case hk => rfl
      case h1 =>
        intro wq_5 kq_5
        have zs_kq_5 := kq_5.size
        replace ha := ha.pure kq_5
        replace hb := hb.pure kq_5
        replace hw := hw.pure kq_5
        refine WL.loads _ Try.isAgg37 Try.sizeOf37 rfl (ha.cellsAt hx) rfl rfl (?_)
        refine WL.nil ?_
        exact WX.one ⟨rfl, by first | exact Chg.refl _ _ | assumption⟩
      apply DQ.step (E' := [(1, _)])
      case ho => rfl
      case hs => exact ⟨rfl, trivial⟩
      case hk => rfl
      case h1 =>
        intro wq_6 kq_6
        refine WL.move rfl rfl (?_)
        refine WL.nil ?_
        exact WX.one ⟨rfl, by first | exact Chg.refl _ _ | assumption⟩
      apply DQ.step (E' := [(5, _)])
      case ho => rfl
      case hs => exact ⟨rfl, trivial⟩
      case hk => rfl
      case h1 =>
        intro wq_7 kq_7
        refine WL.move rfl rfl (?_)
        refine WL.nil ?_
        exact WX.one ⟨rfl, by first | exact Chg.refl _ _ | assumption⟩
      apply DQ.step (E' := [(21, _), (22, _)])
      case ho => rfl
      case hs => exact ⟨rfl, rfl, trivial⟩
      case hk => rfl
      case h1 =>
        intro wq_8 kq_8
        have zs_kq_8 := kq_8.size
        replace ha := ha.pure kq_8
        replace hb := hb.pure kq_8
        replace hw := hw.pure kq_8
        refine WL.indexC hb Try.underlying22 Try.sizeOf37 rfl rfl ⟨hy, rfl⟩ rfl ?_
        refine WL.nil ?_
        exact WX.one ⟨rfl, by first | exact Chg.refl _ _ | assumption⟩
      apply DQ.step (E' := [(23, _)])
      case ho => rfl
      case hs => exact ⟨rfl, trivial⟩
      case hk => rfl
      case h1 =>
        intro wq_9 kq_9
        have zs_kq_9 := kq_9.size
        replace ha := ha.pure kq_9
        replace hb := hb.pure kq_9
        replace hw := hw.pure kq_9
        refine WL.loads _ Try.isAgg37 Try.sizeOf37 rfl (hb.cellsAt hy) rfl rfl (?_)
        refine WL.nil ?_
        exact WX.one ⟨rfl, by first | exact Chg.refl _ _ | assumption⟩
      apply DQ.split (E' := [(20, _), (24, _)])
      case ho => rfl
      case hs => exact ⟨rfl, rfl, trivial⟩
      case hk => rfl
      case h1 =>
        intro wq_10 kq_10
        refine WL.aneq eqg_item (eq_item _ _) rfl rfl rfl ?_
        refine WL.nil ?_
        exact WX.one ⟨rfl, by first | exact Chg.refl _ _ | assumption⟩
      case ht =>
        intro h25
        replace h25 := of_decide_eq_true h25
        refine DQ.done (fun _ => ?_)
        refine DL.done (fun we_11 ke_11 => ?_)
        have zs_ke_11 := ke_11.size
        replace ha := ha.pure ke_11
        replace hb := hb.pure ke_11
        replace hw := hw.pure ke_11
        refine WX.then_normal (WC.cond_true rfl (WC.seq (WC.region (WL.assign rfl rfl (WL.nil (WX.then_normal (WC.ret (?_))))))))
        refine WX.block_ret (WX.then_ret (WX.then_ret (WX.block_ret (WX.then_ret (?_)))))
        refine WX.ret1 (.inl rfl) Try.results18 rfl ?_
        refine ⟨_, rfl, ?_, hw⟩
        first
          | (have : a ≠ b := fun h => by rw [h] at h10; exact h10 rfl
             rw [decide_eq_false this])
          | (have : a ≠ b := fun h => by rw [h, hy] at hx; injection hx with hx; exact h25 hx.symm
             rw [decide_eq_false this])
          | (rw [List.take_of_length_le (by omega), List.take_of_length_le (by omega)] at he
             rw [decide_eq_true he])
      case hf =>
        intro h25
        replace h25 := of_decide_eq_false h25
        refine DQ.done (fun _ => ?_)
        refine DL.done (fun we_11 ke_11 => ?_)
        have zs_ke_11 := ke_11.size
        replace ha := ha.pure ke_11
        replace hb := hb.pure ke_11
        replace hw := hw.pure ke_11
        refine WX.then_normal (WC.cond_false rfl (WC.skip (WX.block_normal (WX.then_normal (WC.region (WL.move rfl rfl (WL.add64 rfl rfl (by first | omega | (constructor <;> omega)) rfl (?_))))))))
        refine WL.assign rfl rfl (WL.nil (?_))
        refine WX.loop_next (k + 1) ⟨rfl, rfl, rfl, trivial⟩ ⟨by omega, ?_, hw⟩ (by show _ - _ < _ - _; omega)
        rw [List.take_add_one, List.take_add_one, hx, hy, he, Classical.not_not.1 h25]
    ·
      refine WL.nil (WX.then_normal (WC.cond_false rfl (WC.exit (WX.then_exit (WX.then_exit (WX.block_here (WX.then_normal (?_))))))))
      refine WC.seq (WC.region (WL.assign rfl rfl (WL.nil (WX.then_normal (WC.ret (?_))))))
      refine WX.ret1 (.inl rfl) Try.results18 rfl ?_
      refine ⟨_, rfl, ?_, hw⟩
      first
        | (have : a ≠ b := fun h => by rw [h] at h10; exact h10 rfl
           rw [decide_eq_false this])
        | (have : a ≠ b := fun h => by rw [h, hy] at hx; injection hx with hx; exact h25 hx.symm
           rw [decide_eq_false this])
        | (rw [List.take_of_length_le (by omega), List.take_of_length_le (by omega)] at he
           rw [decide_eq_true he])
theorem rcheck_calls {S : Nat → Prop} {w : World} {ao : Option Addr} {c : Nat} {l : List Item} (hr : RSl S w eit ao c l) (hl : l.length ≤ 9223372036854775807) :
    Calls Try.prog 33 [.slice ao l.length c].toArray w (Ret fun v w' => v = vi (checkE l) ∧ Chg Nob w w') := by
  have hw := Chg.refl Nob w
  have hr00 := hr
  refine Calls.of_WC Try.func33 rfl Try.ntmps33 (by simp) ?_
  refine WC.seq (WC.region (WL.assign rfl rfl (WL.nil (WX.then_normal (WC.seq (WC.seq (WC.region (?_))))))))
  refine WL.move rfl rfl (WL.len Try.underlying22 rfl rfl (?_))
  refine WL.gtr? rfl rfl rfl (fun h7 => ?_) (fun h7 => ?_)
  ·
    refine WL.nil (WX.then_normal (WC.cond_true rfl (WC.seq (WC.region (WL.assign rfl rfl (WL.nil (WX.then_normal (?_))))))))
    refine WC.ret (WX.then_ret (?_))
    refine WX.ret1 (.inl rfl) Try.results33 rfl ?_
    refine ⟨_, rfl, ?_, hw⟩
    congr 1
    unfold checkE
    by_cases h1 : 2000 < l.length ∨ l.any longI = true
    ·
      rw [if_pos h1]
      all_goals (exfalso; rcases h1 with h8 | h8; omega; rw [hno] at h8; cases h8)
    ·
      rw [if_neg h1]
      first
        | (exfalso; apply h1; left; omega)
        | (exfalso; apply h1; right; refine List.any_eq_true.2 ⟨x, List.mem_of_getElem? hx, ?_⟩; simp only [longI, decide_eq_true_eq]; omega)
        | (by_cases hall' : l.all okI = true
           ·
             rw [if_pos hall']
             all_goals
               exfalso
               have h9 := List.all_eq_true.1 hall' x (List.mem_of_getElem? hx)
               simp only [okI, decide_eq_true_eq] at h9
               rcases h9 with ⟨h8, h9⟩ | ⟨h8, h9⟩
               ·
                 first | omega | exact absurd h9 (by assumption)
               ·
                 omega
           ·
             rw [if_neg hall']
             all_goals
               exfalso
               have h9 : l.length ≤ j := by omega
               rw [List.take_of_length_le h9] at hall
               exact hall' hall)
  ·
    refine WL.nil (WX.then_normal (WC.cond_false rfl (WC.skip (WX.then_normal (WC.seq (WC.seq (WC.region (?_))))))))
    refine WL.assign rfl rfl (WL.nil (WX.then_normal (WC.block (?_))))
    refine WC.loop (σ := Nat) (fun i => [(0, .slice ao l.length c), (3, vi i)])
      (fun i w' => i ≤ l.length ∧ (l.take i).any longI = false ∧ Chg Nob w w') (fun i => l.length - i) 0 ⟨rfl, rfl, trivial⟩ ⟨Nat.zero_le _, by simp, hw⟩ ?_
    clear hw
    rintro i w1 ⟨hi, hno, hw⟩
    replace hr := hr.pure hw
    refine WC.seq (WC.seq (WC.region (WL.move rfl rfl (WL.move rfl rfl (WL.len Try.underlying22 rfl rfl (?_))))))
    refine WL.lss? rfl rfl rfl (fun h11 => ?_) (fun h11 => ?_)
    ·
      refine WL.nil (WX.then_normal (WC.cond_true rfl (WC.skip (WX.then_normal (WC.seq (WC.block (WC.seq (?_))))))))
      refine WC.region (WL.move rfl rfl (WL.move rfl rfl (?_)))
      obtain ⟨x, hx⟩ : ∃ x, l[i]? = some x := ⟨_, List.getElem?_eq_getElem (by omega)⟩
      refine WL.indexT Try.underlying22 Try.sizeOf37 hr rfl rfl ⟨hx, rfl⟩ rfl ?_
      intro b_1 o_1 hc_1
      refine WL.fieldAddr (fld_37_0) rfl rfl (WL.load Try.isAgg3 rfl (hc_1 _ _ rfl) rfl (?_))
      refine WL.eql? rfl rfl rfl (fun h19 => ?_) (fun h19 => ?_)
      ·
        refine WL.move rfl rfl (WL.want rfl rfl rfl (WL.move rfl rfl (WL.want rfl rfl rfl (WL.move rfl rfl (WL.want rfl rfl rfl (?_))))))
        refine WL.indexT Try.underlying22 Try.sizeOf37 hr rfl rfl ⟨hx, rfl⟩ rfl ?_
        intro b_2 o_2 hc_2
        refine WL.want rfl rfl rfl (WL.fieldAddr (fld_37_2) rfl rfl (WL.want rfl rfl rfl (WL.load Try.isAgg9 rfl (hc_2 _ _ rfl) rfl (WL.want rfl rfl rfl (WL.lens Try.underlying9 rfl rfl (WL.want rfl rfl rfl (?_)))))))
        refine WL.gtr? rfl rfl rfl (fun h27 => ?_) (fun h27 => ?_)
        ·
          refine WL.pickT rfl rfl rfl (WL.nil (WX.then_normal (WC.cond_true rfl (WC.seq (WC.region (WL.assign rfl rfl (WL.nil (?_))))))))
          refine WX.then_normal (WC.ret (WX.block_ret (WX.then_ret (WX.then_ret (WX.block_ret (WX.then_ret (?_)))))))
          refine WX.ret1 (.inl rfl) Try.results33 rfl ?_
          refine ⟨_, rfl, ?_, hw⟩
          congr 1
          unfold checkE
          by_cases h1 : 2000 < l.length ∨ l.any longI = true
          ·
            rw [if_pos h1]
            all_goals (exfalso; rcases h1 with h8 | h8; omega; rw [hno] at h8; cases h8)
          ·
            rw [if_neg h1]
            first
              | (exfalso; apply h1; left; omega)
              | (exfalso; apply h1; right; refine List.any_eq_true.2 ⟨x, List.mem_of_getElem? hx, ?_⟩; simp only [longI, decide_eq_true_eq]; omega)
              | (by_cases hall' : l.all okI = true
                 ·
                   rw [if_pos hall']
                   all_goals
                     exfalso
                     have h9 := List.all_eq_true.1 hall' x (List.mem_of_getElem? hx)
                     simp only [okI, decide_eq_true_eq] at h9
                     rcases h9 with ⟨h8, h9⟩ | ⟨h8, h9⟩
                     ·
                       first | omega | exact absurd h9 (by assumption)
                     ·
                       omega
                 ·
                   rw [if_neg hall']
                   all_goals
                     exfalso
                     have h9 : l.length ≤ j := by omega
                     rw [List.take_of_length_le h9] at hall
                     exact hall' hall)
        ·
          refine WL.pickT rfl rfl rfl (WL.nil (WX.then_normal (WC.cond_false rfl (WC.skip (WX.block_normal (WX.then_normal (WC.region (?_))))))))
          refine WL.move rfl rfl (WL.add64 rfl rfl (by first | omega | (constructor <;> omega)) rfl (WL.assign rfl rfl (WL.nil (?_))))
          first
            | (refine WX.loop_next (i + 1) ⟨rfl, rfl, trivial⟩ ⟨by omega, ?_, hw⟩ (by show _ - _ < _ - _; omega)
               have hx9 : longI x = false := by simp only [longI, decide_eq_false_iff_not]; omega
               rw [List.take_add_one, hx, List.any_append, hno]
               simp [hx9])
            | (refine WX.loop_next (j + 1) ⟨rfl, rfl, trivial⟩ ⟨by omega, ?_, hw⟩ (by show _ - _ < _ - _; omega)
               have hx9 : okI x = true := by
                 simp only [okI, decide_eq_true_eq]
                 first
                   | exact .inl ⟨by omega, by assumption⟩
                   | exact .inr ⟨by omega, by omega⟩
               rw [List.take_add_one, hx, List.all_append, hall]
               simp [hx9])
      ·
        refine WL.move rfl rfl (WL.pass rfl rfl rfl rfl (WL.pass rfl rfl rfl rfl (WL.pass rfl rfl rfl rfl (WL.pass rfl rfl rfl rfl (WL.pass rfl rfl rfl rfl (WL.pass rfl rfl rfl rfl (WL.pass rfl rfl rfl rfl (?_))))))))
        refine WL.pickF rfl rfl rfl (WL.nil (WX.then_normal (WC.cond_false rfl (WC.skip (WX.block_normal (WX.then_normal (WC.region (?_))))))))
        refine WL.move rfl rfl (WL.add64 rfl rfl (by first | omega | (constructor <;> omega)) rfl (WL.assign rfl rfl (WL.nil (?_))))
        first
          | (refine WX.loop_next (i + 1) ⟨rfl, rfl, trivial⟩ ⟨by omega, ?_, hw⟩ (by show _ - _ < _ - _; omega)
             have hx9 : longI x = false := by simp only [longI, decide_eq_false_iff_not]; omega
             rw [List.take_add_one, hx, List.any_append, hno]
             simp [hx9])
          | (refine WX.loop_next (j + 1) ⟨rfl, rfl, trivial⟩ ⟨by omega, ?_, hw⟩ (by show _ - _ < _ - _; omega)
             have hx9 : okI x = true := by
               simp only [okI, decide_eq_true_eq]
               first
                 | exact .inl ⟨by omega, by assumption⟩
                 | exact .inr ⟨by omega, by omega⟩
             rw [List.take_add_one, hx, List.all_append, hall]
             simp [hx9])
    ·
      refine WL.nil (WX.then_normal (WC.cond_false rfl (WC.exit (WX.then_exit (WX.then_exit (WX.block_here (WX.then_normal (?_))))))))
      refine WC.seq (WC.seq (WC.region (WL.assign rfl rfl (WL.nil (WX.then_normal (WC.block (?_)))))))
      have hno' : l.any longI = false := by rw [List.take_of_length_le (by omega)] at hno; exact hno
      clear hno
      have hno := hno'
      refine WC.loop (σ := Nat) (fun i => [(0, .slice ao l.length c), (4, vi i)])
        (fun i w' => i ≤ l.length ∧ (l.take i).all okI = true ∧ Chg Nob w w') (fun i => l.length - i) 0 ⟨rfl, rfl, trivial⟩ ⟨Nat.zero_le _, by simp, hw⟩ ?_
      clear hw
      rintro j w2 ⟨hj, hall, hw⟩
      replace hr := hr00.pure hw
      refine WC.seq (WC.seq (WC.region (WL.move rfl rfl (WL.move rfl rfl (WL.len Try.underlying22 rfl rfl (?_))))))
      refine WL.lss? rfl rfl rfl (fun h32 => ?_) (fun h32 => ?_)
      ·
        refine WL.nil (WX.then_normal (WC.cond_true rfl (WC.skip (WX.then_normal (WC.seq (WC.block (WC.seq (?_))))))))
        refine WC.region (WL.move rfl rfl (WL.move rfl rfl (?_)))
        obtain ⟨x, hx⟩ : ∃ x, l[j]? = some x := ⟨_, List.getElem?_eq_getElem (by omega)⟩
        refine WL.indexT Try.underlying22 Try.sizeOf37 hr rfl rfl ⟨hx, rfl⟩ rfl ?_
        intro b_1 o_1 hc_1
        refine WL.fieldAddr (fld_37_0) rfl rfl (WL.load Try.isAgg3 rfl (hc_1 _ _ rfl) rfl (?_))
        refine WL.neq? rfl rfl rfl (fun h40 => ?_) (fun h40 => ?_)
        ·
          refine WL.move rfl rfl (WL.want rfl rfl rfl (WL.move rfl rfl (WL.want rfl rfl rfl (WL.move rfl rfl (WL.want rfl rfl rfl (?_))))))
          refine WL.indexT Try.underlying22 Try.sizeOf37 hr rfl rfl ⟨hx, rfl⟩ rfl ?_
          intro b_2 o_2 hc_2
          refine WL.want rfl rfl rfl (WL.fieldAddr (fld_37_0) rfl rfl (WL.want rfl rfl rfl (WL.load Try.isAgg3 rfl (hc_2 _ _ rfl) rfl (WL.want rfl rfl rfl (?_)))))
          refine WL.neq? rfl rfl rfl (fun h47 => ?_) (fun h47 => ?_)
          ·
            refine WL.pickT rfl rfl rfl (WL.move rfl rfl (WL.pass rfl rfl rfl rfl (WL.pass rfl rfl rfl rfl (WL.pass rfl rfl rfl rfl (WL.pass rfl rfl rfl rfl (WL.pass rfl rfl rfl rfl (WL.pass rfl rfl rfl rfl (?_))))))))
            refine WL.pass rfl rfl rfl rfl (WL.passU rfl rfl rfl (WL.passU rfl rfl rfl (WL.passU rfl rfl rfl (WL.passU rfl rfl rfl (WL.passU rfl rfl rfl (WL.passU rfl rfl rfl (WL.pass rfl rfl rfl rfl (?_))))))))
            refine WL.pickT rfl rfl rfl (WL.move rfl rfl (WL.pass rfl rfl rfl rfl (WL.pass rfl rfl rfl rfl (WL.pass rfl rfl rfl rfl (WL.pass rfl rfl rfl rfl (WL.pass rfl rfl rfl rfl (WL.pass rfl rfl rfl rfl (?_))))))))
            refine WL.pass rfl rfl rfl rfl (WL.passU rfl rfl rfl (WL.passU rfl rfl rfl (WL.passU rfl rfl rfl (WL.passU rfl rfl rfl (WL.passU rfl rfl rfl (WL.passU rfl rfl rfl (WL.pass rfl rfl rfl rfl (?_))))))))
            refine WL.pickT rfl rfl rfl (WL.nil (WX.then_normal (WC.cond_true rfl (WC.seq (WC.region (WL.assign rfl rfl (WL.nil (?_))))))))
            refine WX.then_normal (WC.ret (WX.block_ret (WX.then_ret (WX.then_ret (WX.block_ret (WX.then_ret (?_)))))))
            refine WX.ret1 (.inl rfl) Try.results33 rfl ?_
            refine ⟨_, rfl, ?_, hw⟩
            congr 1
            unfold checkE
            by_cases h1 : 2000 < l.length ∨ l.any longI = true
            ·
              rw [if_pos h1]
              all_goals (exfalso; rcases h1 with h8 | h8; omega; rw [hno] at h8; cases h8)
            ·
              rw [if_neg h1]
              first
                | (exfalso; apply h1; left; omega)
                | (exfalso; apply h1; right; refine List.any_eq_true.2 ⟨x, List.mem_of_getElem? hx, ?_⟩; simp only [longI, decide_eq_true_eq]; omega)
                | (by_cases hall' : l.all okI = true
                   ·
                     rw [if_pos hall']
                     all_goals
                       exfalso
                       have h9 := List.all_eq_true.1 hall' x (List.mem_of_getElem? hx)
                       simp only [okI, decide_eq_true_eq] at h9
                       rcases h9 with ⟨h8, h9⟩ | ⟨h8, h9⟩
                       ·
                         first | omega | exact absurd h9 (by assumption)
                       ·
                         omega
                   ·
                     rw [if_neg hall']
                     all_goals
                       exfalso
                       have h9 : l.length ≤ j := by omega
                       rw [List.take_of_length_le h9] at hall
                       exact hall' hall)
          ·
            refine WL.pickT rfl rfl rfl (WL.move rfl rfl (WL.want rfl rfl rfl (WL.move rfl rfl (WL.want rfl rfl rfl (WL.move rfl rfl (WL.want rfl rfl rfl (?_)))))))
            refine WL.indexT Try.underlying22 Try.sizeOf37 hr rfl rfl ⟨hx, rfl⟩ rfl ?_
            intro b_3 o_3 hc_3
            refine WL.want rfl rfl rfl (WL.fieldAddr (fld_37_0) rfl rfl (WL.want rfl rfl rfl (WL.load Try.isAgg3 rfl (hc_3 _ _ rfl) rfl (WL.want rfl rfl rfl (?_)))))
            refine WL.eql? rfl rfl rfl (fun h55 => ?_) (fun h55 => ?_)
            ·
              refine WL.want rfl rfl rfl (WL.move rfl rfl (WL.want rfl rfl rfl (WL.move rfl rfl (WL.want rfl rfl rfl (WL.move rfl rfl (WL.want rfl rfl rfl (?_)))))))
              refine WL.indexT Try.underlying22 Try.sizeOf37 hr rfl rfl ⟨hx, rfl⟩ rfl ?_
              intro b_4 o_4 hc_4
              refine WL.want rfl rfl rfl (WL.fieldAddr (fld_37_2) rfl rfl (WL.want rfl rfl rfl (WL.load Try.isAgg9 rfl (hc_4 _ _ rfl) rfl (WL.want rfl rfl rfl (?_)))))
              refine WL.sneq? rfl rfl rfl (fun h62 => ?_) (fun h62 => ?_)
              ·
                refine WL.want rfl rfl rfl (WL.pickT rfl rfl rfl (WL.pickF rfl rfl rfl (WL.move rfl rfl (WL.pass rfl rfl rfl rfl (WL.pass rfl rfl rfl rfl (WL.pass rfl rfl rfl rfl (WL.pass rfl rfl rfl rfl (?_))))))))
                refine WL.pass rfl rfl rfl rfl (WL.pass rfl rfl rfl rfl (WL.pass rfl rfl rfl rfl (WL.passU rfl rfl rfl (WL.passU rfl rfl rfl (WL.passU rfl rfl rfl (WL.passU rfl rfl rfl (WL.passU rfl rfl rfl (?_))))))))
                refine WL.passU rfl rfl rfl (WL.pass rfl rfl rfl rfl (WL.pickT rfl rfl rfl (WL.nil (WX.then_normal (WC.cond_true rfl (WC.seq (WC.region (?_))))))))
                refine WL.assign rfl rfl (WL.nil (WX.then_normal (WC.ret (WX.block_ret (WX.then_ret (WX.then_ret (WX.block_ret (?_))))))))
                refine WX.then_ret (?_)
                refine WX.ret1 (.inl rfl) Try.results33 rfl ?_
                refine ⟨_, rfl, ?_, hw⟩
                congr 1
                unfold checkE
                by_cases h1 : 2000 < l.length ∨ l.any longI = true
                ·
                  rw [if_pos h1]
                  all_goals (exfalso; rcases h1 with h8 | h8; omega; rw [hno] at h8; cases h8)
                ·
                  rw [if_neg h1]
                  first
                    | (exfalso; apply h1; left; omega)
                    | (exfalso; apply h1; right; refine List.any_eq_true.2 ⟨x, List.mem_of_getElem? hx, ?_⟩; simp only [longI, decide_eq_true_eq]; omega)
                    | (by_cases hall' : l.all okI = true
                       ·
                         rw [if_pos hall']
                         all_goals
                           exfalso
                           have h9 := List.all_eq_true.1 hall' x (List.mem_of_getElem? hx)
                           simp only [okI, decide_eq_true_eq] at h9
                           rcases h9 with ⟨h8, h9⟩ | ⟨h8, h9⟩
                           ·
                             first | omega | exact absurd h9 (by assumption)
                           ·
                             omega
                       ·
                         rw [if_neg hall']
                         all_goals
                           exfalso
                           have h9 : l.length ≤ j := by omega
                           rw [List.take_of_length_le h9] at hall
                           exact hall' hall)
              ·
                refine WL.want rfl rfl rfl (WL.pickT rfl rfl rfl (WL.pickF rfl rfl rfl (WL.move rfl rfl (WL.want rfl rfl rfl (WL.move rfl rfl (WL.want rfl rfl rfl (WL.move rfl rfl (?_))))))))
                refine WL.want rfl rfl rfl (?_)
                refine WL.indexT Try.underlying22 Try.sizeOf37 hr rfl rfl ⟨hx, rfl⟩ rfl ?_
                intro b_5 o_5 hc_5
                refine WL.want rfl rfl rfl (WL.fieldAddr (fld_37_0) rfl rfl (WL.want rfl rfl rfl (WL.load Try.isAgg3 rfl (hc_5 _ _ rfl) rfl (WL.want rfl rfl rfl (?_)))))
                refine WL.eql? rfl rfl rfl (fun h71 => ?_) (fun h71 => ?_)
                ·
                  refine WL.want rfl rfl rfl (WL.move rfl rfl (WL.want rfl rfl rfl (WL.move rfl rfl (WL.want rfl rfl rfl (WL.move rfl rfl (WL.want rfl rfl rfl (?_)))))))
                  refine WL.indexT Try.underlying22 Try.sizeOf37 hr rfl rfl ⟨hx, rfl⟩ rfl ?_
                  intro b_6 o_6 hc_6
                  refine WL.want rfl rfl rfl (WL.fieldAddr (fld_37_1) rfl rfl (WL.want rfl rfl rfl (WL.load Try.isAgg3 rfl (hc_6 _ _ rfl) rfl (WL.want rfl rfl rfl (?_)))))
                  refine WL.neq? rfl rfl rfl (fun h78 => ?_) (fun h78 => ?_)
                  ·
                    refine WL.want rfl rfl rfl (WL.pickT rfl rfl rfl (WL.pickF rfl rfl rfl (WL.nil (WX.then_normal (WC.cond_true rfl (WC.seq (WC.region (?_))))))))
                    refine WL.assign rfl rfl (WL.nil (WX.then_normal (WC.ret (WX.block_ret (WX.then_ret (WX.then_ret (WX.block_ret (?_))))))))
                    refine WX.then_ret (?_)
                    refine WX.ret1 (.inl rfl) Try.results33 rfl ?_
                    refine ⟨_, rfl, ?_, hw⟩
                    congr 1
                    unfold checkE
                    by_cases h1 : 2000 < l.length ∨ l.any longI = true
                    ·
                      rw [if_pos h1]
                      all_goals (exfalso; rcases h1 with h8 | h8; omega; rw [hno] at h8; cases h8)
                    ·
                      rw [if_neg h1]
                      first
                        | (exfalso; apply h1; left; omega)
                        | (exfalso; apply h1; right; refine List.any_eq_true.2 ⟨x, List.mem_of_getElem? hx, ?_⟩; simp only [longI, decide_eq_true_eq]; omega)
                        | (by_cases hall' : l.all okI = true
                           ·
                             rw [if_pos hall']
                             all_goals
                               exfalso
                               have h9 := List.all_eq_true.1 hall' x (List.mem_of_getElem? hx)
                               simp only [okI, decide_eq_true_eq] at h9
                               rcases h9 with ⟨h8, h9⟩ | ⟨h8, h9⟩
                               ·
                                 first | omega | exact absurd h9 (by assumption)
                               ·
                                 omega
                           ·
                             rw [if_neg hall']
                             all_goals
                               exfalso
                               have h9 : l.length ≤ j := by omega
                               rw [List.take_of_length_le h9] at hall
                               exact hall' hall)
                  ·
                    refine WL.want rfl rfl rfl (WL.pickT rfl rfl rfl (WL.pickF rfl rfl rfl (WL.nil (WX.then_normal (WC.cond_false rfl (WC.skip (WX.block_normal (?_))))))))
                    refine WX.then_normal (WC.region (WL.move rfl rfl (WL.add64 rfl rfl (by first | omega | (constructor <;> omega)) rfl (WL.assign rfl rfl (WL.nil (?_))))))
                    first
                      | (refine WX.loop_next (i + 1) ⟨rfl, rfl, trivial⟩ ⟨by omega, ?_, hw⟩ (by show _ - _ < _ - _; omega)
                         have hx9 : longI x = false := by simp only [longI, decide_eq_false_iff_not]; omega
                         rw [List.take_add_one, hx, List.any_append, hno]
                         simp [hx9])
                      | (refine WX.loop_next (j + 1) ⟨rfl, rfl, trivial⟩ ⟨by omega, ?_, hw⟩ (by show _ - _ < _ - _; omega)
                         have hx9 : okI x = true := by
                           simp only [okI, decide_eq_true_eq]
                           first
                             | exact .inl ⟨by omega, by assumption⟩
                             | exact .inr ⟨by omega, by omega⟩
                         rw [List.take_add_one, hx, List.all_append, hall]
                         simp [hx9])
                ·
                  refine WL.want rfl rfl rfl (WL.move rfl rfl (WL.pass rfl rfl rfl rfl (WL.pass rfl rfl rfl rfl (WL.pass rfl rfl rfl rfl (WL.pass rfl rfl rfl rfl (WL.pass rfl rfl rfl rfl (WL.pass rfl rfl rfl rfl (?_))))))))
                  refine WL.want rfl rfl rfl (WL.pickF rfl rfl rfl (WL.pickF rfl rfl rfl (WL.nil (WX.then_normal (WC.cond_false rfl (WC.skip (WX.block_normal (?_))))))))
                  refine WX.then_normal (WC.region (WL.move rfl rfl (WL.add64 rfl rfl (by first | omega | (constructor <;> omega)) rfl (WL.assign rfl rfl (WL.nil (?_))))))
                  first
                    | (refine WX.loop_next (i + 1) ⟨rfl, rfl, trivial⟩ ⟨by omega, ?_, hw⟩ (by show _ - _ < _ - _; omega)
                       have hx9 : longI x = false := by simp only [longI, decide_eq_false_iff_not]; omega
                       rw [List.take_add_one, hx, List.any_append, hno]
                       simp [hx9])
                    | (refine WX.loop_next (j + 1) ⟨rfl, rfl, trivial⟩ ⟨by omega, ?_, hw⟩ (by show _ - _ < _ - _; omega)
                       have hx9 : okI x = true := by
                         simp only [okI, decide_eq_true_eq]
                         first
                           | exact .inl ⟨by omega, by assumption⟩
                           | exact .inr ⟨by omega, by omega⟩
                       rw [List.take_add_one, hx, List.all_append, hall]
                       simp [hx9])
            ·
              refine WL.want rfl rfl rfl (WL.move rfl rfl (WL.pass rfl rfl rfl rfl (WL.pass rfl rfl rfl rfl (WL.pass rfl rfl rfl rfl (WL.pass rfl rfl rfl rfl (WL.pass rfl rfl rfl rfl (WL.pass rfl rfl rfl rfl (?_))))))))
              refine WL.want rfl rfl rfl (WL.pickF rfl rfl rfl (WL.pickF rfl rfl rfl (WL.move rfl rfl (WL.want rfl rfl rfl (WL.move rfl rfl (WL.want rfl rfl rfl (WL.move rfl rfl (?_))))))))
              refine WL.want rfl rfl rfl (?_)
              refine WL.indexT Try.underlying22 Try.sizeOf37 hr rfl rfl ⟨hx, rfl⟩ rfl ?_
              intro b_4 o_4 hc_4
              refine WL.want rfl rfl rfl (WL.fieldAddr (fld_37_0) rfl rfl (WL.want rfl rfl rfl (WL.load Try.isAgg3 rfl (hc_4 _ _ rfl) rfl (WL.want rfl rfl rfl (?_)))))
              refine WL.eql? rfl rfl rfl (fun h71 => ?_) (fun h71 => ?_)
              ·
                refine WL.want rfl rfl rfl (WL.move rfl rfl (WL.want rfl rfl rfl (WL.move rfl rfl (WL.want rfl rfl rfl (WL.move rfl rfl (WL.want rfl rfl rfl (?_)))))))
                refine WL.indexT Try.underlying22 Try.sizeOf37 hr rfl rfl ⟨hx, rfl⟩ rfl ?_
                intro b_5 o_5 hc_5
                refine WL.want rfl rfl rfl (WL.fieldAddr (fld_37_1) rfl rfl (WL.want rfl rfl rfl (WL.load Try.isAgg3 rfl (hc_5 _ _ rfl) rfl (WL.want rfl rfl rfl (?_)))))
                refine WL.neq? rfl rfl rfl (fun h78 => ?_) (fun h78 => ?_)
                ·
                  refine WL.want rfl rfl rfl (WL.pickT rfl rfl rfl (WL.pickF rfl rfl rfl (WL.nil (WX.then_normal (WC.cond_true rfl (WC.seq (WC.region (?_))))))))
                  refine WL.assign rfl rfl (WL.nil (WX.then_normal (WC.ret (WX.block_ret (WX.then_ret (WX.then_ret (WX.block_ret (?_))))))))
                  refine WX.then_ret (?_)
                  refine WX.ret1 (.inl rfl) Try.results33 rfl ?_
                  refine ⟨_, rfl, ?_, hw⟩
                  congr 1
                  unfold checkE
                  by_cases h1 : 2000 < l.length ∨ l.any longI = true
                  ·
                    rw [if_pos h1]
                    all_goals (exfalso; rcases h1 with h8 | h8; omega; rw [hno] at h8; cases h8)
                  ·
                    rw [if_neg h1]
                    first
                      | (exfalso; apply h1; left; omega)
                      | (exfalso; apply h1; right; refine List.any_eq_true.2 ⟨x, List.mem_of_getElem? hx, ?_⟩; simp only [longI, decide_eq_true_eq]; omega)
                      | (by_cases hall' : l.all okI = true
                         ·
                           rw [if_pos hall']
                           all_goals
                             exfalso
                             have h9 := List.all_eq_true.1 hall' x (List.mem_of_getElem? hx)
                             simp only [okI, decide_eq_true_eq] at h9
                             rcases h9 with ⟨h8, h9⟩ | ⟨h8, h9⟩
                             ·
                               first | omega | exact absurd h9 (by assumption)
                             ·
                               omega
                         ·
                           rw [if_neg hall']
                           all_goals
                             exfalso
                             have h9 : l.length ≤ j := by omega
                             rw [List.take_of_length_le h9] at hall
                             exact hall' hall)
                ·
                  refine WL.want rfl rfl rfl (WL.pickT rfl rfl rfl (WL.pickF rfl rfl rfl (WL.nil (WX.then_normal (WC.cond_false rfl (WC.skip (WX.block_normal (?_))))))))
                  refine WX.then_normal (WC.region (WL.move rfl rfl (WL.add64 rfl rfl (by first | omega | (constructor <;> omega)) rfl (WL.assign rfl rfl (WL.nil (?_))))))
                  first
                    | (refine WX.loop_next (i + 1) ⟨rfl, rfl, trivial⟩ ⟨by omega, ?_, hw⟩ (by show _ - _ < _ - _; omega)
                       have hx9 : longI x = false := by simp only [longI, decide_eq_false_iff_not]; omega
                       rw [List.take_add_one, hx, List.any_append, hno]
                       simp [hx9])
                    | (refine WX.loop_next (j + 1) ⟨rfl, rfl, trivial⟩ ⟨by omega, ?_, hw⟩ (by show _ - _ < _ - _; omega)
                       have hx9 : okI x = true := by
                         simp only [okI, decide_eq_true_eq]
                         first
                           | exact .inl ⟨by omega, by assumption⟩
                           | exact .inr ⟨by omega, by omega⟩
                       rw [List.take_add_one, hx, List.all_append, hall]
                       simp [hx9])
              ·
                refine WL.want rfl rfl rfl (WL.move rfl rfl (WL.pass rfl rfl rfl rfl (WL.pass rfl rfl rfl rfl (WL.pass rfl rfl rfl rfl (WL.pass rfl rfl rfl rfl (WL.pass rfl rfl rfl rfl (WL.pass rfl rfl rfl rfl (?_))))))))
                refine WL.want rfl rfl rfl (WL.pickF rfl rfl rfl (WL.pickF rfl rfl rfl (WL.nil (WX.then_normal (WC.cond_false rfl (WC.skip (WX.block_normal (?_))))))))
                refine WX.then_normal (WC.region (WL.move rfl rfl (WL.add64 rfl rfl (by first | omega | (constructor <;> omega)) rfl (WL.assign rfl rfl (WL.nil (?_))))))
                first
                  | (refine WX.loop_next (i + 1) ⟨rfl, rfl, trivial⟩ ⟨by omega, ?_, hw⟩ (by show _ - _ < _ - _; omega)
                     have hx9 : longI x = false := by simp only [longI, decide_eq_false_iff_not]; omega
                     rw [List.take_add_one, hx, List.any_append, hno]
                     simp [hx9])
                  | (refine WX.loop_next (j + 1) ⟨rfl, rfl, trivial⟩ ⟨by omega, ?_, hw⟩ (by show _ - _ < _ - _; omega)
                     have hx9 : okI x = true := by
                       simp only [okI, decide_eq_true_eq]
                       first
                         | exact .inl ⟨by omega, by assumption⟩
                         | exact .inr ⟨by omega, by omega⟩
                     rw [List.take_add_one, hx, List.all_append, hall]
                     simp [hx9])
        ·
          refine WL.move rfl rfl (WL.pass rfl rfl rfl rfl (WL.pass rfl rfl rfl rfl (WL.pass rfl rfl rfl rfl (WL.pass rfl rfl rfl rfl (WL.pass rfl rfl rfl rfl (WL.pass rfl rfl rfl rfl (WL.pickF rfl rfl rfl (?_))))))))
          refine WL.move rfl rfl (WL.want rfl rfl rfl (WL.move rfl rfl (WL.want rfl rfl rfl (WL.move rfl rfl (WL.want rfl rfl rfl (?_))))))
          refine WL.indexT Try.underlying22 Try.sizeOf37 hr rfl rfl ⟨hx, rfl⟩ rfl ?_
          intro b_2 o_2 hc_2
          refine WL.want rfl rfl rfl (WL.fieldAddr (fld_37_0) rfl rfl (WL.want rfl rfl rfl (WL.load Try.isAgg3 rfl (hc_2 _ _ rfl) rfl (WL.want rfl rfl rfl (?_)))))
          refine WL.eql? rfl rfl rfl (fun h55 => ?_) (fun h55 => ?_)
          ·
            refine WL.want rfl rfl rfl (WL.move rfl rfl (WL.want rfl rfl rfl (WL.move rfl rfl (WL.want rfl rfl rfl (WL.move rfl rfl (WL.want rfl rfl rfl (?_)))))))
            refine WL.indexT Try.underlying22 Try.sizeOf37 hr rfl rfl ⟨hx, rfl⟩ rfl ?_
            intro b_3 o_3 hc_3
            refine WL.want rfl rfl rfl (WL.fieldAddr (fld_37_2) rfl rfl (WL.want rfl rfl rfl (WL.load Try.isAgg9 rfl (hc_3 _ _ rfl) rfl (WL.want rfl rfl rfl (?_)))))
            refine WL.sneq? rfl rfl rfl (fun h62 => ?_) (fun h62 => ?_)
            ·
              refine WL.want rfl rfl rfl (WL.pickT rfl rfl rfl (WL.pickF rfl rfl rfl (WL.move rfl rfl (WL.pass rfl rfl rfl rfl (WL.pass rfl rfl rfl rfl (WL.pass rfl rfl rfl rfl (WL.pass rfl rfl rfl rfl (?_))))))))
              refine WL.pass rfl rfl rfl rfl (WL.pass rfl rfl rfl rfl (WL.pass rfl rfl rfl rfl (WL.passU rfl rfl rfl (WL.passU rfl rfl rfl (WL.passU rfl rfl rfl (WL.passU rfl rfl rfl (WL.passU rfl rfl rfl (?_))))))))
              refine WL.passU rfl rfl rfl (WL.pass rfl rfl rfl rfl (WL.pickT rfl rfl rfl (WL.nil (WX.then_normal (WC.cond_true rfl (WC.seq (WC.region (?_))))))))
              refine WL.assign rfl rfl (WL.nil (WX.then_normal (WC.ret (WX.block_ret (WX.then_ret (WX.then_ret (WX.block_ret (?_))))))))
              refine WX.then_ret (?_)
              refine WX.ret1 (.inl rfl) Try.results33 rfl ?_
              refine ⟨_, rfl, ?_, hw⟩
              congr 1
              unfold checkE
              by_cases h1 : 2000 < l.length ∨ l.any longI = true
              ·
                rw [if_pos h1]
                all_goals (exfalso; rcases h1 with h8 | h8; omega; rw [hno] at h8; cases h8)
              ·
                rw [if_neg h1]
                first
                  | (exfalso; apply h1; left; omega)
                  | (exfalso; apply h1; right; refine List.any_eq_true.2 ⟨x, List.mem_of_getElem? hx, ?_⟩; simp only [longI, decide_eq_true_eq]; omega)
                  | (by_cases hall' : l.all okI = true
                     ·
                       rw [if_pos hall']
                       all_goals
                         exfalso
                         have h9 := List.all_eq_true.1 hall' x (List.mem_of_getElem? hx)
                         simp only [okI, decide_eq_true_eq] at h9
                         rcases h9 with ⟨h8, h9⟩ | ⟨h8, h9⟩
                         ·
                           first | omega | exact absurd h9 (by assumption)
                         ·
                           omega
                     ·
                       rw [if_neg hall']
                       all_goals
                         exfalso
                         have h9 : l.length ≤ j := by omega
                         rw [List.take_of_length_le h9] at hall
                         exact hall' hall)
            ·
              refine WL.want rfl rfl rfl (WL.pickT rfl rfl rfl (WL.pickF rfl rfl rfl (WL.move rfl rfl (WL.want rfl rfl rfl (WL.move rfl rfl (WL.want rfl rfl rfl (WL.move rfl rfl (?_))))))))
              refine WL.want rfl rfl rfl (?_)
              refine WL.indexT Try.underlying22 Try.sizeOf37 hr rfl rfl ⟨hx, rfl⟩ rfl ?_
              intro b_4 o_4 hc_4
              refine WL.want rfl rfl rfl (WL.fieldAddr (fld_37_0) rfl rfl (WL.want rfl rfl rfl (WL.load Try.isAgg3 rfl (hc_4 _ _ rfl) rfl (WL.want rfl rfl rfl (?_)))))
              refine WL.eql? rfl rfl rfl (fun h71 => ?_) (fun h71 => ?_)
              ·
                refine WL.want rfl rfl rfl (WL.move rfl rfl (WL.want rfl rfl rfl (WL.move rfl rfl (WL.want rfl rfl rfl (WL.move rfl rfl (WL.want rfl rfl rfl (?_)))))))
                refine WL.indexT Try.underlying22 Try.sizeOf37 hr rfl rfl ⟨hx, rfl⟩ rfl ?_
                intro b_5 o_5 hc_5
                refine WL.want rfl rfl rfl (WL.fieldAddr (fld_37_1) rfl rfl (WL.want rfl rfl rfl (WL.load Try.isAgg3 rfl (hc_5 _ _ rfl) rfl (WL.want rfl rfl rfl (?_)))))
                refine WL.neq? rfl rfl rfl (fun h78 => ?_) (fun h78 => ?_)
                ·
                  refine WL.want rfl rfl rfl (WL.pickT rfl rfl rfl (WL.pickF rfl rfl rfl (WL.nil (WX.then_normal (WC.cond_true rfl (WC.seq (WC.region (?_))))))))
                  refine WL.assign rfl rfl (WL.nil (WX.then_normal (WC.ret (WX.block_ret (WX.then_ret (WX.then_ret (WX.block_ret (?_))))))))
                  refine WX.then_ret (?_)
                  refine WX.ret1 (.inl rfl) Try.results33 rfl ?_
                  refine ⟨_, rfl, ?_, hw⟩
                  congr 1
                  unfold checkE
                  by_cases h1 : 2000 < l.length ∨ l.any longI = true
                  ·
                    rw [if_pos h1]
                    all_goals (exfalso; rcases h1 with h8 | h8; omega; rw [hno] at h8; cases h8)
                  ·
                    rw [if_neg h1]
                    first
                      | (exfalso; apply h1; left; omega)
                      | (exfalso; apply h1; right; refine List.any_eq_true.2 ⟨x, List.mem_of_getElem? hx, ?_⟩; simp only [longI, decide_eq_true_eq]; omega)
                      | (by_cases hall' : l.all okI = true
                         ·
                           rw [if_pos hall']
                           all_goals
                             exfalso
                             have h9 := List.all_eq_true.1 hall' x (List.mem_of_getElem? hx)
                             simp only [okI, decide_eq_true_eq] at h9
                             rcases h9 with ⟨h8, h9⟩ | ⟨h8, h9⟩
                             ·
                               first | omega | exact absurd h9 (by assumption)
                             ·
                               omega
                         ·
                           rw [if_neg hall']
                           all_goals
                             exfalso
                             have h9 : l.length ≤ j := by omega
                             rw [List.take_of_length_le h9] at hall
                             exact hall' hall)
                ·
                  refine WL.want rfl rfl rfl (WL.pickT rfl rfl rfl (WL.pickF rfl rfl rfl (WL.nil (WX.then_normal (WC.cond_false rfl (WC.skip (WX.block_normal (?_))))))))
                  refine WX.then_normal (WC.region (WL.move rfl rfl (WL.add64 rfl rfl (by first | omega | (constructor <;> omega)) rfl (WL.assign rfl rfl (WL.nil (?_))))))
                  first
                    | (refine WX.loop_next (i + 1) ⟨rfl, rfl, trivial⟩ ⟨by omega, ?_, hw⟩ (by show _ - _ < _ - _; omega)
                       have hx9 : longI x = false := by simp only [longI, decide_eq_false_iff_not]; omega
                       rw [List.take_add_one, hx, List.any_append, hno]
                       simp [hx9])
                    | (refine WX.loop_next (j + 1) ⟨rfl, rfl, trivial⟩ ⟨by omega, ?_, hw⟩ (by show _ - _ < _ - _; omega)
                       have hx9 : okI x = true := by
                         simp only [okI, decide_eq_true_eq]
                         first
                           | exact .inl ⟨by omega, by assumption⟩
                           | exact .inr ⟨by omega, by omega⟩
                       rw [List.take_add_one, hx, List.all_append, hall]
                       simp [hx9])
              ·
                refine WL.want rfl rfl rfl (WL.move rfl rfl (WL.pass rfl rfl rfl rfl (WL.pass rfl rfl rfl rfl (WL.pass rfl rfl rfl rfl (WL.pass rfl rfl rfl rfl (WL.pass rfl rfl rfl rfl (WL.pass rfl rfl rfl rfl (?_))))))))
                refine WL.want rfl rfl rfl (WL.pickF rfl rfl rfl (WL.pickF rfl rfl rfl (WL.nil (WX.then_normal (WC.cond_false rfl (WC.skip (WX.block_normal (?_))))))))
                refine WX.then_normal (WC.region (WL.move rfl rfl (WL.add64 rfl rfl (by first | omega | (constructor <;> omega)) rfl (WL.assign rfl rfl (WL.nil (?_))))))
                first
                  | (refine WX.loop_next (i + 1) ⟨rfl, rfl, trivial⟩ ⟨by omega, ?_, hw⟩ (by show _ - _ < _ - _; omega)
                     have hx9 : longI x = false := by simp only [longI, decide_eq_false_iff_not]; omega
                     rw [List.take_add_one, hx, List.any_append, hno]
                     simp [hx9])
                  | (refine WX.loop_next (j + 1) ⟨rfl, rfl, trivial⟩ ⟨by omega, ?_, hw⟩ (by show _ - _ < _ - _; omega)
                     have hx9 : okI x = true := by
                       simp only [okI, decide_eq_true_eq]
                       first
                         | exact .inl ⟨by omega, by assumption⟩
                         | exact .inr ⟨by omega, by omega⟩
                     rw [List.take_add_one, hx, List.all_append, hall]
                     simp [hx9])
          ·
            refine WL.want rfl rfl rfl (WL.move rfl rfl (WL.pass rfl rfl rfl rfl (WL.pass rfl rfl rfl rfl (WL.pass rfl rfl rfl rfl (WL.pass rfl rfl rfl rfl (WL.pass rfl rfl rfl rfl (WL.pass rfl rfl rfl rfl (?_))))))))
            refine WL.want rfl rfl rfl (WL.pickF rfl rfl rfl (WL.pickF rfl rfl rfl (WL.move rfl rfl (WL.want rfl rfl rfl (WL.move rfl rfl (WL.want rfl rfl rfl (WL.move rfl rfl (?_))))))))
            refine WL.want rfl rfl rfl (?_)
            refine WL.indexT Try.underlying22 Try.sizeOf37 hr rfl rfl ⟨hx, rfl⟩ rfl ?_
            intro b_3 o_3 hc_3
            refine WL.want rfl rfl rfl (WL.fieldAddr (fld_37_0) rfl rfl (WL.want rfl rfl rfl (WL.load Try.isAgg3 rfl (hc_3 _ _ rfl) rfl (WL.want rfl rfl rfl (?_)))))
            refine WL.eql? rfl rfl rfl (fun h71 => ?_) (fun h71 => ?_)
            ·
              refine WL.want rfl rfl rfl (WL.move rfl rfl (WL.want rfl rfl rfl (WL.move rfl rfl (WL.want rfl rfl rfl (WL.move rfl rfl (WL.want rfl rfl rfl (?_)))))))
              refine WL.indexT Try.underlying22 Try.sizeOf37 hr rfl rfl ⟨hx, rfl⟩ rfl ?_
              intro b_4 o_4 hc_4
              refine WL.want rfl rfl rfl (WL.fieldAddr (fld_37_1) rfl rfl (WL.want rfl rfl rfl (WL.load Try.isAgg3 rfl (hc_4 _ _ rfl) rfl (WL.want rfl rfl rfl (?_)))))
              refine WL.neq? rfl rfl rfl (fun h78 => ?_) (fun h78 => ?_)
              ·
                refine WL.want rfl rfl rfl (WL.pickT rfl rfl rfl (WL.pickF rfl rfl rfl (WL.nil (WX.then_normal (WC.cond_true rfl (WC.seq (WC.region (?_))))))))
                refine WL.assign rfl rfl (WL.nil (WX.then_normal (WC.ret (WX.block_ret (WX.then_ret (WX.then_ret (WX.block_ret (?_))))))))
                refine WX.then_ret (?_)
                refine WX.ret1 (.inl rfl) Try.results33 rfl ?_
                refine ⟨_, rfl, ?_, hw⟩
                congr 1
                unfold checkE
                by_cases h1 : 2000 < l.length ∨ l.any longI = true
                ·
                  rw [if_pos h1]
                  all_goals (exfalso; rcases h1 with h8 | h8; omega; rw [hno] at h8; cases h8)
                ·
                  rw [if_neg h1]
                  first
                    | (exfalso; apply h1; left; omega)
                    | (exfalso; apply h1; right; refine List.any_eq_true.2 ⟨x, List.mem_of_getElem? hx, ?_⟩; simp only [longI, decide_eq_true_eq]; omega)
                    | (by_cases hall' : l.all okI = true
                       ·
                         rw [if_pos hall']
                         all_goals
                           exfalso
                           have h9 := List.all_eq_true.1 hall' x (List.mem_of_getElem? hx)
                           simp only [okI, decide_eq_true_eq] at h9
                           rcases h9 with ⟨h8, h9⟩ | ⟨h8, h9⟩
                           ·
                             first | omega | exact absurd h9 (by assumption)
                           ·
                             omega
                       ·
                         rw [if_neg hall']
                         all_goals
                           exfalso
                           have h9 : l.length ≤ j := by omega
                           rw [List.take_of_length_le h9] at hall
                           exact hall' hall)
              ·
                refine WL.want rfl rfl rfl (WL.pickT rfl rfl rfl (WL.pickF rfl rfl rfl (WL.nil (WX.then_normal (WC.cond_false rfl (WC.skip (WX.block_normal (?_))))))))
                refine WX.then_normal (WC.region (WL.move rfl rfl (WL.add64 rfl rfl (by first | omega | (constructor <;> omega)) rfl (WL.assign rfl rfl (WL.nil (?_))))))
                first
                  | (refine WX.loop_next (i + 1) ⟨rfl, rfl, trivial⟩ ⟨by omega, ?_, hw⟩ (by show _ - _ < _ - _; omega)
                     have hx9 : longI x = false := by simp only [longI, decide_eq_false_iff_not]; omega
                     rw [List.take_add_one, hx, List.any_append, hno]
                     simp [hx9])
                  | (refine WX.loop_next (j + 1) ⟨rfl, rfl, trivial⟩ ⟨by omega, ?_, hw⟩ (by show _ - _ < _ - _; omega)
                     have hx9 : okI x = true := by
                       simp only [okI, decide_eq_true_eq]
                       first
                         | exact .inl ⟨by omega, by assumption⟩
                         | exact .inr ⟨by omega, by omega⟩
                     rw [List.take_add_one, hx, List.all_append, hall]
                     simp [hx9])
            ·
              refine WL.want rfl rfl rfl (WL.move rfl rfl (WL.pass rfl rfl rfl rfl (WL.pass rfl rfl rfl rfl (WL.pass rfl rfl rfl rfl (WL.pass rfl rfl rfl rfl (WL.pass rfl rfl rfl rfl (WL.pass rfl rfl rfl rfl (?_))))))))
              refine WL.want rfl rfl rfl (WL.pickF rfl rfl rfl (WL.pickF rfl rfl rfl (WL.nil (WX.then_normal (WC.cond_false rfl (WC.skip (WX.block_normal (?_))))))))
              refine WX.then_normal (WC.region (WL.move rfl rfl (WL.add64 rfl rfl (by first | omega | (constructor <;> omega)) rfl (WL.assign rfl rfl (WL.nil (?_))))))
              first
                | (refine WX.loop_next (i + 1) ⟨rfl, rfl, trivial⟩ ⟨by omega, ?_, hw⟩ (by show _ - _ < _ - _; omega)
                   have hx9 : longI x = false := by simp only [longI, decide_eq_false_iff_not]; omega
                   rw [List.take_add_one, hx, List.any_append, hno]
                   simp [hx9])
                | (refine WX.loop_next (j + 1) ⟨rfl, rfl, trivial⟩ ⟨by omega, ?_, hw⟩ (by show _ - _ < _ - _; omega)
                   have hx9 : okI x = true := by
                     simp only [okI, decide_eq_true_eq]
                     first
                       | exact .inl ⟨by omega, by assumption⟩
                       | exact .inr ⟨by omega, by omega⟩
                   rw [List.take_add_one, hx, List.all_append, hall]
                   simp [hx9])
      ·
        refine WL.nil (WX.then_normal (WC.cond_false rfl (WC.exit (WX.then_exit (WX.then_exit (WX.block_here (WX.then_normal (?_))))))))
        refine WC.seq (WC.region (WL.assign rfl rfl (WL.nil (WX.then_normal (WC.ret (?_))))))
        refine WX.ret1 (.inl rfl) Try.results33 rfl ?_
        refine ⟨_, rfl, ?_, hw⟩
        congr 1
        unfold checkE
        by_cases h1 : 2000 < l.length ∨ l.any longI = true
        ·
          rw [if_pos h1]
          all_goals (exfalso; rcases h1 with h8 | h8; omega; rw [hno] at h8; cases h8)
        ·
          rw [if_neg h1]
          first
            | (exfalso; apply h1; left; omega)
            | (exfalso; apply h1; right; refine List.any_eq_true.2 ⟨x, List.mem_of_getElem? hx, ?_⟩; simp only [longI, decide_eq_true_eq]; omega)
            | (by_cases hall' : l.all okI = true
               ·
                 rw [if_pos hall']
                 all_goals
                   exfalso
                   have h9 := List.all_eq_true.1 hall' x (List.mem_of_getElem? hx)
                   simp only [okI, decide_eq_true_eq] at h9
                   rcases h9 with ⟨h8, h9⟩ | ⟨h8, h9⟩
                   ·
                     first | omega | exact absurd h9 (by assumption)
                   ·
                     omega
               ·
                 rw [if_neg hall']
                 all_goals
                   exfalso
                   have h9 : l.length ≤ j := by omega
                   rw [List.take_of_length_le h9] at hall
                   exact hall' hall)
end Go.Proofs.Ytfkaioldfmapjaa
