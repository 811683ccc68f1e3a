import Derived.Test.YtjeldcjchipdgaaDoorQLabelSectors3
namespace Go.Proofs.YtjeldcjchipdgaaDoor
open Go.RowKit Go.HL
set_option maxRecDepth 100000

theorem eqg_item : Tryd.prog.eqGuardType Tryd.prog.depth 75 = false := by kernel_rfl
theorem eq_item (a b : Item) (w : World) : (Op.equalIn 10000 75 (.agg (eit.f a).toArray) (.agg (eit.f b).toArray)).run Tryd.prog w = .ok (decide (a = b)) w := by
  refine eqA_of (d := 9999) Tryd.underlying75 (by kernel_rfl) ?_
  have h3 : (decide (a.kind = b.kind) && (decide (a.n = b.n) && (decide (a.s = b.s) && true))) = decide (a = b) := by
    have : decide (a = b) = decide (a.kind = b.kind ∧ a.n = b.n ∧ a.s = b.s) := decide_eq_decide.2 (Item.eq_iff a b).symm
    rw [this]
    simp [Bool.decide_and]
  rw [← h3]
  refine eqf_cons rfl (part1 Tryd.sizeOf3 Tryd.isAgg3 rfl) (part1 Tryd.sizeOf3 Tryd.isAgg3 rfl) (run_equalIn_int w 9998 _ _ _ _ _ Tryd.underlying3) ?_
  refine eqf_cons rfl (part1 Tryd.sizeOf3 Tryd.isAgg3 rfl) (part1 Tryd.sizeOf3 Tryd.isAgg3 rfl) (run_equalIn_int w 9998 _ _ _ _ _ Tryd.underlying3) ?_
  refine eqf_cons rfl (part1 Tryd.sizeOf9 Tryd.isAgg9 rfl) (part1 Tryd.sizeOf9 Tryd.isAgg9 rfl) (by rw [← beq_bytes]; exact run_equalIn_string w 9998 _ _ _ Tryd.underlying9) eqf_nil

theorem rcheck_calls {S : Nat → Prop} {w : World} {ao : Option Addr} {c : Nat} {l : List Item} (hr : RSl S w eit ao c l) (hl : l.length ≤ 9223372036854775807) :
    Calls Tryd.prog 78 [.slice ao l.length c].toArray w (Ret fun v w' => v = vi (checkE l) ∧ Chg Nob w w') := by
  have hw := Chg.refl Nob w
  have hr00 := hr
  refine Calls.of_WC Tryd.func78 rfl Tryd.ntmps78 (by simp) ?_
  refine WC.seq (WC.region (WL.assign rfl rfl (WL.nil (WX.then_normal (WC.seq (WC.seq (WC.region (?_))))))))
  refine WL.move rfl rfl (WL.len Tryd.underlying76 rfl rfl (?_))
  refine WL.gtr? rfl rfl rfl (fun h7 => ?_) (fun h7 => ?_)
  ·
    refine WL.nil (WX.then_normal (WC.cond_true rfl (WC.seq (WC.region (WL.assign rfl rfl (WL.nil (WX.then_normal (?_))))))))
    refine WC.ret (WX.then_ret (?_))
    refine WX.ret1 (.inl rfl) Tryd.results78 rfl ?_
    refine ⟨_, rfl, ?_, hw⟩
    congr 1
    unfold checkE
    by_cases h1 : 2000 < l.length ∨ l.any longI = true
    ·
      rw [if_pos h1]
      all_goals (exfalso; rcases h1 with h8 | h8; omega; rw [hno] at h8; cases h8)
    ·
      rw [if_neg h1]
      first
        | (exfalso; apply h1; left; omega)
        | (exfalso; apply h1; right; refine List.any_eq_true.2 ⟨x, List.mem_of_getElem? hx, ?_⟩; simp only [longI, decide_eq_true_eq]; omega)
        | (by_cases hall' : l.all okI = true
           ·
             rw [if_pos hall']
             all_goals
               exfalso
               have h9 := List.all_eq_true.1 hall' x (List.mem_of_getElem? hx)
               simp only [okI, decide_eq_true_eq] at h9
               rcases h9 with ⟨h8, h9⟩ | ⟨h8, h9⟩
               ·
                 first | omega | exact absurd h9 (by assumption)
               ·
                 omega
           ·
             rw [if_neg hall']
             all_goals
               exfalso
               have h9 : l.length ≤ j := by omega
               rw [List.take_of_length_le h9] at hall
               exact hall' hall)
  ·
    refine WL.nil (WX.then_normal (WC.cond_false rfl (WC.skip (WX.then_normal (WC.seq (WC.seq (WC.region (?_))))))))
    refine WL.assign rfl rfl (WL.nil (WX.then_normal (WC.block (?_))))
    refine WC.loop (σ := Nat) (fun i => [(0, .slice ao l.length c), (3, vi i)])
      (fun i w' => i ≤ l.length ∧ (l.take i).any longI = false ∧ Chg Nob w w') (fun i => l.length - i) 0 ⟨rfl, rfl, trivial⟩ ⟨Nat.zero_le _, by simp, hw⟩ ?_
    clear hw
    rintro i w1 ⟨hi, hno, hw⟩
    replace hr := hr.pure hw
    refine WC.seq (WC.seq (WC.region (WL.move rfl rfl (WL.move rfl rfl (WL.len Tryd.underlying76 rfl rfl (?_))))))
    refine WL.lss? rfl rfl rfl (fun h11 => ?_) (fun h11 => ?_)
    ·
      refine WL.nil (WX.then_normal (WC.cond_true rfl (WC.skip (WX.then_normal (WC.seq (WC.block (WC.seq (?_))))))))
      refine WC.region (WL.move rfl rfl (WL.move rfl rfl (?_)))
      obtain ⟨x, hx⟩ : ∃ x, l[i]? = some x := ⟨_, List.getElem?_eq_getElem (by omega)⟩
      refine WL.indexT Tryd.underlying76 Tryd.sizeOf75 hr rfl rfl ⟨hx, rfl⟩ rfl ?_
      intro b_1 o_1 hc_1
      refine WL.fieldAddr (fld_75_0) rfl rfl (WL.load Tryd.isAgg3 rfl (hc_1 _ _ rfl) rfl (?_))
      refine WL.eql? rfl rfl rfl (fun h19 => ?_) (fun h19 => ?_)
      ·
        refine WL.move rfl rfl (WL.want rfl rfl rfl (WL.move rfl rfl (WL.want rfl rfl rfl (WL.move rfl rfl (WL.want rfl rfl rfl (?_))))))
        refine WL.indexT Tryd.underlying76 Tryd.sizeOf75 hr rfl rfl ⟨hx, rfl⟩ rfl ?_
        intro b_2 o_2 hc_2
        refine WL.want rfl rfl rfl (WL.fieldAddr (fld_75_2) rfl rfl (WL.want rfl rfl rfl (WL.load Tryd.isAgg9 rfl (hc_2 _ _ rfl) rfl (WL.want rfl rfl rfl (WL.lens Tryd.underlying9 rfl rfl (WL.want rfl rfl rfl (?_)))))))
        refine WL.gtr? rfl rfl rfl (fun h27 => ?_) (fun h27 => ?_)
        ·
          refine WL.pickT rfl rfl rfl (WL.nil (WX.then_normal (WC.cond_true rfl (WC.seq (WC.region (WL.assign rfl rfl (WL.nil (?_))))))))
          refine WX.then_normal (WC.ret (WX.block_ret (WX.then_ret (WX.then_ret (WX.block_ret (WX.then_ret (?_)))))))
          refine WX.ret1 (.inl rfl) Tryd.results78 rfl ?_
          refine ⟨_, rfl, ?_, hw⟩
          congr 1
          unfold checkE
          by_cases h1 : 2000 < l.length ∨ l.any longI = true
          ·
            rw [if_pos h1]
            all_goals (exfalso; rcases h1 with h8 | h8; omega; rw [hno] at h8; cases h8)
          ·
            rw [if_neg h1]
            first
              | (exfalso; apply h1; left; omega)
              | (exfalso; apply h1; right; refine List.any_eq_true.2 ⟨x, List.mem_of_getElem? hx, ?_⟩; simp only [longI, decide_eq_true_eq]; omega)
              | (by_cases hall' : l.all okI = true
                 ·
                   rw [if_pos hall']
                   all_goals
                     exfalso
                     have h9 := List.all_eq_true.1 hall' x (List.mem_of_getElem? hx)
                     simp only [okI, decide_eq_true_eq] at h9
                     rcases h9 with ⟨h8, h9⟩ | ⟨h8, h9⟩
                     ·
                       first | omega | exact absurd h9 (by assumption)
                     ·
                       omega
                 ·
                   rw [if_neg hall']
                   all_goals
                     exfalso
                     have h9 : l.length ≤ j := by omega
                     rw [List.take_of_length_le h9] at hall
                     exact hall' hall)
        ·
          refine WL.pickT rfl rfl rfl (WL.nil (WX.then_normal (WC.cond_false rfl (WC.skip (WX.block_normal (WX.then_normal (WC.region (?_))))))))
          refine WL.move rfl rfl (WL.add64 rfl rfl (by omega) rfl (WL.assign rfl rfl (WL.nil (?_))))
          first
            | (refine WX.loop_next (i + 1) ⟨rfl, rfl, trivial⟩ ⟨by omega, ?_, hw⟩ (by show _ - _ < _ - _; omega)
               have hx9 : longI x = false := by simp only [longI, decide_eq_false_iff_not]; omega
               rw [List.take_add_one, hx, List.any_append, hno]
               simp [hx9])
            | (refine WX.loop_next (j + 1) ⟨rfl, rfl, trivial⟩ ⟨by omega, ?_, hw⟩ (by show _ - _ < _ - _; omega)
               have hx9 : okI x = true := by
                 simp only [okI, decide_eq_true_eq]
                 first
                   | exact .inl ⟨by omega, by assumption⟩
                   | exact .inr ⟨by omega, by omega⟩
               rw [List.take_add_one, hx, List.all_append, hall]
               simp [hx9])
      ·
        refine WL.move rfl rfl (WL.pass rfl rfl rfl rfl (WL.pass rfl rfl rfl rfl (WL.pass rfl rfl rfl rfl (WL.pass rfl rfl rfl rfl (WL.pass rfl rfl rfl rfl (WL.pass rfl rfl rfl rfl (WL.pass rfl rfl rfl rfl (?_))))))))
        refine WL.pickF rfl rfl rfl (WL.nil (WX.then_normal (WC.cond_false rfl (WC.skip (WX.block_normal (WX.then_normal (WC.region (?_))))))))
        refine WL.move rfl rfl (WL.add64 rfl rfl (by omega) rfl (WL.assign rfl rfl (WL.nil (?_))))
        first
          | (refine WX.loop_next (i + 1) ⟨rfl, rfl, trivial⟩ ⟨by omega, ?_, hw⟩ (by show _ - _ < _ - _; omega)
             have hx9 : longI x = false := by simp only [longI, decide_eq_false_iff_not]; omega
             rw [List.take_add_one, hx, List.any_append, hno]
             simp [hx9])
          | (refine WX.loop_next (j + 1) ⟨rfl, rfl, trivial⟩ ⟨by omega, ?_, hw⟩ (by show _ - _ < _ - _; omega)
             have hx9 : okI x = true := by
               simp only [okI, decide_eq_true_eq]
               first
                 | exact .inl ⟨by omega, by assumption⟩
                 | exact .inr ⟨by omega, by omega⟩
             rw [List.take_add_one, hx, List.all_append, hall]
             simp [hx9])
    ·
      refine WL.nil (WX.then_normal (WC.cond_false rfl (WC.exit (WX.then_exit (WX.then_exit (WX.block_here (WX.then_normal (?_))))))))
      refine WC.seq (WC.seq (WC.region (WL.assign rfl rfl (WL.nil (WX.then_normal (WC.block (?_)))))))
      have hno' : l.any longI = false := by rw [List.take_of_length_le (by omega)] at hno; exact hno
      clear hno
      have hno := hno'
      refine WC.loop (σ := Nat) (fun i => [(0, .slice ao l.length c), (4, vi i)])
        (fun i w' => i ≤ l.length ∧ (l.take i).all okI = true ∧ Chg Nob w w') (fun i => l.length - i) 0 ⟨rfl, rfl, trivial⟩ ⟨Nat.zero_le _, by simp, hw⟩ ?_
      clear hw
      rintro j w2 ⟨hj, hall, hw⟩
      replace hr := hr00.pure hw
      refine WC.seq (WC.seq (WC.region (WL.move rfl rfl (WL.move rfl rfl (WL.len Tryd.underlying76 rfl rfl (?_))))))
      refine WL.lss? rfl rfl rfl (fun h32 => ?_) (fun h32 => ?_)
      ·
        refine WL.nil (WX.then_normal (WC.cond_true rfl (WC.skip (WX.then_normal (WC.seq (WC.block (WC.seq (?_))))))))
        refine WC.region (WL.move rfl rfl (WL.move rfl rfl (?_)))
        obtain ⟨x, hx⟩ : ∃ x, l[j]? = some x := ⟨_, List.getElem?_eq_getElem (by omega)⟩
        refine WL.indexT Tryd.underlying76 Tryd.sizeOf75 hr rfl rfl ⟨hx, rfl⟩ rfl ?_
        intro b_1 o_1 hc_1
        refine WL.fieldAddr (fld_75_0) rfl rfl (WL.load Tryd.isAgg3 rfl (hc_1 _ _ rfl) rfl (?_))
        refine WL.neq? rfl rfl rfl (fun h40 => ?_) (fun h40 => ?_)
        ·
          refine WL.move rfl rfl (WL.want rfl rfl rfl (WL.move rfl rfl (WL.want rfl rfl rfl (WL.move rfl rfl (WL.want rfl rfl rfl (?_))))))
          refine WL.indexT Tryd.underlying76 Tryd.sizeOf75 hr rfl rfl ⟨hx, rfl⟩ rfl ?_
          intro b_2 o_2 hc_2
          refine WL.want rfl rfl rfl (WL.fieldAddr (fld_75_0) rfl rfl (WL.want rfl rfl rfl (WL.load Tryd.isAgg3 rfl (hc_2 _ _ rfl) rfl (WL.want rfl rfl rfl (?_)))))
          refine WL.neq? rfl rfl rfl (fun h47 => ?_) (fun h47 => ?_)
          ·
            refine WL.pickT rfl rfl rfl (WL.move rfl rfl (WL.pass rfl rfl rfl rfl (WL.pass rfl rfl rfl rfl (WL.pass rfl rfl rfl rfl (WL.pass rfl rfl rfl rfl (WL.pass rfl rfl rfl rfl (WL.pass rfl rfl rfl rfl (?_))))))))
            refine WL.pass rfl rfl rfl rfl (WL.passU rfl rfl rfl (WL.passU rfl rfl rfl (WL.passU rfl rfl rfl (WL.passU rfl rfl rfl (WL.passU rfl rfl rfl (WL.passU rfl rfl rfl (WL.pass rfl rfl rfl rfl (?_))))))))
            refine WL.pickT rfl rfl rfl (WL.move rfl rfl (WL.pass rfl rfl rfl rfl (WL.pass rfl rfl rfl rfl (WL.pass rfl rfl rfl rfl (WL.pass rfl rfl rfl rfl (WL.pass rfl rfl rfl rfl (WL.pass rfl rfl rfl rfl (?_))))))))
            refine WL.pass rfl rfl rfl rfl (WL.passU rfl rfl rfl (WL.passU rfl rfl rfl (WL.passU rfl rfl rfl (WL.passU rfl rfl rfl (WL.passU rfl rfl rfl (WL.passU rfl rfl rfl (WL.pass rfl rfl rfl rfl (?_))))))))
            refine WL.pickT rfl rfl rfl (WL.nil (WX.then_normal (WC.cond_true rfl (WC.seq (WC.region (WL.assign rfl rfl (WL.nil (?_))))))))
            refine WX.then_normal (WC.ret (WX.block_ret (WX.then_ret (WX.then_ret (WX.block_ret (WX.then_ret (?_)))))))
            refine WX.ret1 (.inl rfl) Tryd.results78 rfl ?_
            refine ⟨_, rfl, ?_, hw⟩
            congr 1
            unfold checkE
            by_cases h1 : 2000 < l.length ∨ l.any longI = true
            ·
              rw [if_pos h1]
              all_goals (exfalso; rcases h1 with h8 | h8; omega; rw [hno] at h8; cases h8)
            ·
              rw [if_neg h1]
              first
                | (exfalso; apply h1; left; omega)
                | (exfalso; apply h1; right; refine List.any_eq_true.2 ⟨x, List.mem_of_getElem? hx, ?_⟩; simp only [longI, decide_eq_true_eq]; omega)
                | (by_cases hall' : l.all okI = true
                   ·
                     rw [if_pos hall']
                     all_goals
                       exfalso
                       have h9 := List.all_eq_true.1 hall' x (List.mem_of_getElem? hx)
                       simp only [okI, decide_eq_true_eq] at h9
                       rcases h9 with ⟨h8, h9⟩ | ⟨h8, h9⟩
                       ·
                         first | omega | exact absurd h9 (by assumption)
                       ·
                         omega
                   ·
                     rw [if_neg hall']
                     all_goals
                       exfalso
                       have h9 : l.length ≤ j := by omega
                       rw [List.take_of_length_le h9] at hall
                       exact hall' hall)
          ·
            refine WL.pickT rfl rfl rfl (WL.move rfl rfl (WL.want rfl rfl rfl (WL.move rfl rfl (WL.want rfl rfl rfl (WL.move rfl rfl (WL.want rfl rfl rfl (?_)))))))
            refine WL.indexT Tryd.underlying76 Tryd.sizeOf75 hr rfl rfl ⟨hx, rfl⟩ rfl ?_
            intro b_3 o_3 hc_3
            refine WL.want rfl rfl rfl (WL.fieldAddr (fld_75_0) rfl rfl (WL.want rfl rfl rfl (WL.load Tryd.isAgg3 rfl (hc_3 _ _ rfl) rfl (WL.want rfl rfl rfl (?_)))))
            refine WL.eql? rfl rfl rfl (fun h55 => ?_) (fun h55 => ?_)
            ·
              refine WL.want rfl rfl rfl (WL.move rfl rfl (WL.want rfl rfl rfl (WL.move rfl rfl (WL.want rfl rfl rfl (WL.move rfl rfl (WL.want rfl rfl rfl (?_)))))))
              refine WL.indexT Tryd.underlying76 Tryd.sizeOf75 hr rfl rfl ⟨hx, rfl⟩ rfl ?_
              intro b_4 o_4 hc_4
              refine WL.want rfl rfl rfl (WL.fieldAddr (fld_75_2) rfl rfl (WL.want rfl rfl rfl (WL.load Tryd.isAgg9 rfl (hc_4 _ _ rfl) rfl (WL.want rfl rfl rfl (?_)))))
              refine WL.sneq? rfl rfl rfl (fun h62 => ?_) (fun h62 => ?_)
              ·
                refine WL.want rfl rfl rfl (WL.pickT rfl rfl rfl (WL.pickF rfl rfl rfl (WL.move rfl rfl (WL.pass rfl rfl rfl rfl (WL.pass rfl rfl rfl rfl (WL.pass rfl rfl rfl rfl (WL.pass rfl rfl rfl rfl (?_))))))))
                refine WL.pass rfl rfl rfl rfl (WL.pass rfl rfl rfl rfl (WL.pass rfl rfl rfl rfl (WL.passU rfl rfl rfl (WL.passU rfl rfl rfl (WL.passU rfl rfl rfl (WL.passU rfl rfl rfl (WL.passU rfl rfl rfl (?_))))))))
                refine WL.passU rfl rfl rfl (WL.pass rfl rfl rfl rfl (WL.pickT rfl rfl rfl (WL.nil (WX.then_normal (WC.cond_true rfl (WC.seq (WC.region (?_))))))))
                refine WL.assign rfl rfl (WL.nil (WX.then_normal (WC.ret (WX.block_ret (WX.then_ret (WX.then_ret (WX.block_ret (?_))))))))
                refine WX.then_ret (?_)
                refine WX.ret1 (.inl rfl) Tryd.results78 rfl ?_
                refine ⟨_, rfl, ?_, hw⟩
                congr 1
                unfold checkE
                by_cases h1 : 2000 < l.length ∨ l.any longI = true
                ·
                  rw [if_pos h1]
                  all_goals (exfalso; rcases h1 with h8 | h8; omega; rw [hno] at h8; cases h8)
                ·
                  rw [if_neg h1]
                  first
                    | (exfalso; apply h1; left; omega)
                    | (exfalso; apply h1; right; refine List.any_eq_true.2 ⟨x, List.mem_of_getElem? hx, ?_⟩; simp only [longI, decide_eq_true_eq]; omega)
                    | (by_cases hall' : l.all okI = true
                       ·
                         rw [if_pos hall']
                         all_goals
                           exfalso
                           have h9 := List.all_eq_true.1 hall' x (List.mem_of_getElem? hx)
                           simp only [okI, decide_eq_true_eq] at h9
                           rcases h9 with ⟨h8, h9⟩ | ⟨h8, h9⟩
                           ·
                             first | omega | exact absurd h9 (by assumption)
                           ·
                             omega
                       ·
                         rw [if_neg hall']
                         all_goals
                           exfalso
                           have h9 : l.length ≤ j := by omega
                           rw [List.take_of_length_le h9] at hall
                           exact hall' hall)
              ·
                refine WL.want rfl rfl rfl (WL.pickT rfl rfl rfl (WL.pickF rfl rfl rfl (WL.move rfl rfl (WL.want rfl rfl rfl (WL.move rfl rfl (WL.want rfl rfl rfl (WL.move rfl rfl (?_))))))))
                refine WL.want rfl rfl rfl (?_)
                refine WL.indexT Tryd.underlying76 Tryd.sizeOf75 hr rfl rfl ⟨hx, rfl⟩ rfl ?_
                intro b_5 o_5 hc_5
                refine WL.want rfl rfl rfl (WL.fieldAddr (fld_75_0) rfl rfl (WL.want rfl rfl rfl (WL.load Tryd.isAgg3 rfl (hc_5 _ _ rfl) rfl (WL.want rfl rfl rfl (?_)))))
                refine WL.eql? rfl rfl rfl (fun h71 => ?_) (fun h71 => ?_)
                ·
                  refine WL.want rfl rfl rfl (WL.move rfl rfl (WL.want rfl rfl rfl (WL.move rfl rfl (WL.want rfl rfl rfl (WL.move rfl rfl (WL.want rfl rfl rfl (?_)))))))
                  refine WL.indexT Tryd.underlying76 Tryd.sizeOf75 hr rfl rfl ⟨hx, rfl⟩ rfl ?_
                  intro b_6 o_6 hc_6
                  refine WL.want rfl rfl rfl (WL.fieldAddr (fld_75_1) rfl rfl (WL.want rfl rfl rfl (WL.load Tryd.isAgg3 rfl (hc_6 _ _ rfl) rfl (WL.want rfl rfl rfl (?_)))))
                  refine WL.neq? rfl rfl rfl (fun h78 => ?_) (fun h78 => ?_)
                  ·
                    refine WL.want rfl rfl rfl (WL.pickT rfl rfl rfl (WL.pickF rfl rfl rfl (WL.nil (WX.then_normal (WC.cond_true rfl (WC.seq (WC.region (?_))))))))
                    refine WL.assign rfl rfl (WL.nil (WX.then_normal (WC.ret (WX.block_ret (WX.then_ret (WX.then_ret (WX.block_ret (?_))))))))
                    refine WX.then_ret (?_)
                    refine WX.ret1 (.inl rfl) Tryd.results78 rfl ?_
                    refine ⟨_, rfl, ?_, hw⟩
                    congr 1
                    unfold checkE
                    by_cases h1 : 2000 < l.length ∨ l.any longI = true
                    ·
                      rw [if_pos h1]
                      all_goals (exfalso; rcases h1 with h8 | h8; omega; rw [hno] at h8; cases h8)
                    ·
                      rw [if_neg h1]
                      first
                        | (exfalso; apply h1; left; omega)
                        | (exfalso; apply h1; right; refine List.any_eq_true.2 ⟨x, List.mem_of_getElem? hx, ?_⟩; simp only [longI, decide_eq_true_eq]; omega)
                        | (by_cases hall' : l.all okI = true
                           ·
                             rw [if_pos hall']
                             all_goals
                               exfalso
                               have h9 := List.all_eq_true.1 hall' x (List.mem_of_getElem? hx)
                               simp only [okI, decide_eq_true_eq] at h9
                               rcases h9 with ⟨h8, h9⟩ | ⟨h8, h9⟩
                               ·
                                 first | omega | exact absurd h9 (by assumption)
                               ·
                                 omega
                           ·
                             rw [if_neg hall']
                             all_goals
                               exfalso
                               have h9 : l.length ≤ j := by omega
                               rw [List.take_of_length_le h9] at hall
                               exact hall' hall)
                  ·
                    refine WL.want rfl rfl rfl (WL.pickT rfl rfl rfl (WL.pickF rfl rfl rfl (WL.nil (WX.then_normal (WC.cond_false rfl (WC.skip (WX.block_normal (?_))))))))
                    refine WX.then_normal (WC.region (WL.move rfl rfl (WL.add64 rfl rfl (by omega) rfl (WL.assign rfl rfl (WL.nil (?_))))))
                    first
                      | (refine WX.loop_next (i + 1) ⟨rfl, rfl, trivial⟩ ⟨by omega, ?_, hw⟩ (by show _ - _ < _ - _; omega)
                         have hx9 : longI x = false := by simp only [longI, decide_eq_false_iff_not]; omega
                         rw [List.take_add_one, hx, List.any_append, hno]
                         simp [hx9])
                      | (refine WX.loop_next (j + 1) ⟨rfl, rfl, trivial⟩ ⟨by omega, ?_, hw⟩ (by show _ - _ < _ - _; omega)
                         have hx9 : okI x = true := by
                           simp only [okI, decide_eq_true_eq]
                           first
                             | exact .inl ⟨by omega, by assumption⟩
                             | exact .inr ⟨by omega, by omega⟩
                         rw [List.take_add_one, hx, List.all_append, hall]
                         simp [hx9])
                ·
                  refine WL.want rfl rfl rfl (WL.move rfl rfl (WL.pass rfl rfl rfl rfl (WL.pass rfl rfl rfl rfl (WL.pass rfl rfl rfl rfl (WL.pass rfl rfl rfl rfl (WL.pass rfl rfl rfl rfl (WL.pass rfl rfl rfl rfl (?_))))))))
                  refine WL.want rfl rfl rfl (WL.pickF rfl rfl rfl (WL.pickF rfl rfl rfl (WL.nil (WX.then_normal (WC.cond_false rfl (WC.skip (WX.block_normal (?_))))))))
                  refine WX.then_normal (WC.region (WL.move rfl rfl (WL.add64 rfl rfl (by omega) rfl (WL.assign rfl rfl (WL.nil (?_))))))
                  first
                    | (refine WX.loop_next (i + 1) ⟨rfl, rfl, trivial⟩ ⟨by omega, ?_, hw⟩ (by show _ - _ < _ - _; omega)
                       have hx9 : longI x = false := by simp only [longI, decide_eq_false_iff_not]; omega
                       rw [List.take_add_one, hx, List.any_append, hno]
                       simp [hx9])
                    | (refine WX.loop_next (j + 1) ⟨rfl, rfl, trivial⟩ ⟨by omega, ?_, hw⟩ (by show _ - _ < _ - _; omega)
                       have hx9 : okI x = true := by
                         simp only [okI, decide_eq_true_eq]
                         first
                           | exact .inl ⟨by omega, by assumption⟩
                           | exact .inr ⟨by omega, by omega⟩
                       rw [List.take_add_one, hx, List.all_append, hall]
                       simp [hx9])
            ·
              refine WL.want rfl rfl rfl (WL.move rfl rfl (WL.pass rfl rfl rfl rfl (WL.pass rfl rfl rfl rfl (WL.pass rfl rfl rfl rfl (WL.pass rfl rfl rfl rfl (WL.pass rfl rfl rfl rfl (WL.pass rfl rfl rfl rfl (?_))))))))
              refine WL.want rfl rfl rfl (WL.pickF rfl rfl rfl (WL.pickF rfl rfl rfl (WL.move rfl rfl (WL.want rfl rfl rfl (WL.move rfl rfl (WL.want rfl rfl rfl (WL.move rfl rfl (?_))))))))
              refine WL.want rfl rfl rfl (?_)
              refine WL.indexT Tryd.underlying76 Tryd.sizeOf75 hr rfl rfl ⟨hx, rfl⟩ rfl ?_
              intro b_4 o_4 hc_4
              refine WL.want rfl rfl rfl (WL.fieldAddr (fld_75_0) rfl rfl (WL.want rfl rfl rfl (WL.load Tryd.isAgg3 rfl (hc_4 _ _ rfl) rfl (WL.want rfl rfl rfl (?_)))))
              refine WL.eql? rfl rfl rfl (fun h71 => ?_) (fun h71 => ?_)
              ·
                refine WL.want rfl rfl rfl (WL.move rfl rfl (WL.want rfl rfl rfl (WL.move rfl rfl (WL.want rfl rfl rfl (WL.move rfl rfl (WL.want rfl rfl rfl (?_)))))))
                refine WL.indexT Tryd.underlying76 Tryd.sizeOf75 hr rfl rfl ⟨hx, rfl⟩ rfl ?_
                intro b_5 o_5 hc_5
                refine WL.want rfl rfl rfl (WL.fieldAddr (fld_75_1) rfl rfl (WL.want rfl rfl rfl (WL.load Tryd.isAgg3 rfl (hc_5 _ _ rfl) rfl (WL.want rfl rfl rfl (?_)))))
                refine WL.neq? rfl rfl rfl (fun h78 => ?_) (fun h78 => ?_)
                ·
                  refine WL.want rfl rfl rfl (WL.pickT rfl rfl rfl (WL.pickF rfl rfl rfl (WL.nil (WX.then_normal (WC.cond_true rfl (WC.seq (WC.region (?_))))))))
                  refine WL.assign rfl rfl (WL.nil (WX.then_normal (WC.ret (WX.block_ret (WX.then_ret (WX.then_ret (WX.block_ret (?_))))))))
                  refine WX.then_ret (?_)
                  refine WX.ret1 (.inl rfl) Tryd.results78 rfl ?_
                  refine ⟨_, rfl, ?_, hw⟩
                  congr 1
                  unfold checkE
                  by_cases h1 : 2000 < l.length ∨ l.any longI = true
                  ·
                    rw [if_pos h1]
                    all_goals (exfalso; rcases h1 with h8 | h8; omega; rw [hno] at h8; cases h8)
                  ·
                    rw [if_neg h1]
                    first
                      | (exfalso; apply h1; left; omega)
                      | (exfalso; apply h1; right; refine List.any_eq_true.2 ⟨x, List.mem_of_getElem? hx, ?_⟩; simp only [longI, decide_eq_true_eq]; omega)
                      | (by_cases hall' : l.all okI = true
                         ·
                           rw [if_pos hall']
                           all_goals
                             exfalso
                             have h9 := List.all_eq_true.1 hall' x (List.mem_of_getElem? hx)
                             simp only [okI, decide_eq_true_eq] at h9
                             rcases h9 with ⟨h8, h9⟩ | ⟨h8, h9⟩
                             ·
                               first | omega | exact absurd h9 (by assumption)
                             ·
                               omega
                         ·
                           rw [if_neg hall']
                           all_goals
                             exfalso
                             have h9 : l.length ≤ j := by omega
                             rw [List.take_of_length_le h9] at hall
                             exact hall' hall)
                ·
                  refine WL.want rfl rfl rfl (WL.pickT rfl rfl rfl (WL.pickF rfl rfl rfl (WL.nil (WX.then_normal (WC.cond_false rfl (WC.skip (WX.block_normal (?_))))))))
                  refine WX.then_normal (WC.region (WL.move rfl rfl (WL.add64 rfl rfl (by omega) rfl (WL.assign rfl rfl (WL.nil (?_))))))
                  first
                    | (refine WX.loop_next (i + 1) ⟨rfl, rfl, trivial⟩ ⟨by omega, ?_, hw⟩ (by show _ - _ < _ - _; omega)
                       have hx9 : longI x = false := by simp only [longI, decide_eq_false_iff_not]; omega
                       rw [List.take_add_one, hx, List.any_append, hno]
                       simp [hx9])
                    | (refine WX.loop_next (j + 1) ⟨rfl, rfl, trivial⟩ ⟨by omega, ?_, hw⟩ (by show _ - _ < _ - _; omega)
                       have hx9 : okI x = true := by
                         simp only [okI, decide_eq_true_eq]
                         first
                           | exact .inl ⟨by omega, by assumption⟩
                           | exact .inr ⟨by omega, by omega⟩
                       rw [List.take_add_one, hx, List.all_append, hall]
                       simp [hx9])
              ·
                refine WL.want rfl rfl rfl (WL.move rfl rfl (WL.pass rfl rfl rfl rfl (WL.pass rfl rfl rfl rfl (WL.pass rfl rfl rfl rfl (WL.pass rfl rfl rfl rfl (WL.pass rfl rfl rfl rfl (WL.pass rfl rfl rfl rfl (?_))))))))
                refine WL.want rfl rfl rfl (WL.pickF rfl rfl rfl (WL.pickF rfl rfl rfl (WL.nil (WX.then_normal (WC.cond_false rfl (WC.skip (WX.block_normal (?_))))))))
                refine WX.then_normal (WC.region (WL.move rfl rfl (WL.add64 rfl rfl (by omega) rfl (WL.assign rfl rfl (WL.nil (?_))))))
                first
                  | (refine WX.loop_next (i + 1) ⟨rfl, rfl, trivial⟩ ⟨by omega, ?_, hw⟩ (by show _ - _ < _ - _; omega)
                     have hx9 : longI x = false := by simp only [longI, decide_eq_false_iff_not]; omega
                     rw [List.take_add_one, hx, List.any_append, hno]
                     simp [hx9])
                  | (refine WX.loop_next (j + 1) ⟨rfl, rfl, trivial⟩ ⟨by omega, ?_, hw⟩ (by show _ - _ < _ - _; omega)
                     have hx9 : okI x = true := by
                       simp only [okI, decide_eq_true_eq]
                       first
                         | exact .inl ⟨by omega, by assumption⟩
                         | exact .inr ⟨by omega, by omega⟩
                     rw [List.take_add_one, hx, List.all_append, hall]
                     simp [hx9])
        ·
          refine WL.move rfl rfl (WL.pass rfl rfl rfl rfl (WL.pass rfl rfl rfl rfl (WL.pass rfl rfl rfl rfl (WL.pass rfl rfl rfl rfl (WL.pass rfl rfl rfl rfl (WL.pass rfl rfl rfl rfl (WL.pickF rfl rfl rfl (?_))))))))
          refine WL.move rfl rfl (WL.want rfl rfl rfl (WL.move rfl rfl (WL.want rfl rfl rfl (WL.move rfl rfl (WL.want rfl rfl rfl (?_))))))
          refine WL.indexT Tryd.underlying76 Tryd.sizeOf75 hr rfl rfl ⟨hx, rfl⟩ rfl ?_
          intro b_2 o_2 hc_2
          refine WL.want rfl rfl rfl (WL.fieldAddr (fld_75_0) rfl rfl (WL.want rfl rfl rfl (WL.load Tryd.isAgg3 rfl (hc_2 _ _ rfl) rfl (WL.want rfl rfl rfl (?_)))))
          refine WL.eql? rfl rfl rfl (fun h55 => ?_) (fun h55 => ?_)
          ·
            refine WL.want rfl rfl rfl (WL.move rfl rfl (WL.want rfl rfl rfl (WL.move rfl rfl (WL.want rfl rfl rfl (WL.move rfl rfl (WL.want rfl rfl rfl (?_)))))))
            refine WL.indexT Tryd.underlying76 Tryd.sizeOf75 hr rfl rfl ⟨hx, rfl⟩ rfl ?_
            intro b_3 o_3 hc_3
            refine WL.want rfl rfl rfl (WL.fieldAddr (fld_75_2) rfl rfl (WL.want rfl rfl rfl (WL.load Tryd.isAgg9 rfl (hc_3 _ _ rfl) rfl (WL.want rfl rfl rfl (?_)))))
            refine WL.sneq? rfl rfl rfl (fun h62 => ?_) (fun h62 => ?_)
            ·
              refine WL.want rfl rfl rfl (WL.pickT rfl rfl rfl (WL.pickF rfl rfl rfl (WL.move rfl rfl (WL.pass rfl rfl rfl rfl (WL.pass rfl rfl rfl rfl (WL.pass rfl rfl rfl rfl (WL.pass rfl rfl rfl rfl (?_))))))))
              refine WL.pass rfl rfl rfl rfl (WL.pass rfl rfl rfl rfl (WL.pass rfl rfl rfl rfl (WL.passU rfl rfl rfl (WL.passU rfl rfl rfl (WL.passU rfl rfl rfl (WL.passU rfl rfl rfl (WL.passU rfl rfl rfl (?_))))))))
              refine WL.passU rfl rfl rfl (WL.pass rfl rfl rfl rfl (WL.pickT rfl rfl rfl (WL.nil (WX.then_normal (WC.cond_true rfl (WC.seq (WC.region (?_))))))))
              refine WL.assign rfl rfl (WL.nil (WX.then_normal (WC.ret (WX.block_ret (WX.then_ret (WX.then_ret (WX.block_ret (?_))))))))
              refine WX.then_ret (?_)
              refine WX.ret1 (.inl rfl) Tryd.results78 rfl ?_
              refine ⟨_, rfl, ?_, hw⟩
              congr 1
              unfold checkE
              by_cases h1 : 2000 < l.length ∨ l.any longI = true
              ·
                rw [if_pos h1]
                all_goals (exfalso; rcases h1 with h8 | h8; omega; rw [hno] at h8; cases h8)
              ·
                rw [if_neg h1]
                first
                  | (exfalso; apply h1; left; omega)
                  | (exfalso; apply h1; right; refine List.any_eq_true.2 ⟨x, List.mem_of_getElem? hx, ?_⟩; simp only [longI, decide_eq_true_eq]; omega)
                  | (by_cases hall' : l.all okI = true
                     ·
                       rw [if_pos hall']
                       all_goals
                         exfalso
                         have h9 := List.all_eq_true.1 hall' x (List.mem_of_getElem? hx)
                         simp only [okI, decide_eq_true_eq] at h9
                         rcases h9 with ⟨h8, h9⟩ | ⟨h8, h9⟩
                         ·
                           first | omega | exact absurd h9 (by assumption)
                         ·
                           omega
                     ·
                       rw [if_neg hall']
                       all_goals
                         exfalso
                         have h9 : l.length ≤ j := by omega
                         rw [List.take_of_length_le h9] at hall
                         exact hall' hall)
            ·
              refine WL.want rfl rfl rfl (WL.pickT rfl rfl rfl (WL.pickF rfl rfl rfl (WL.move rfl rfl (WL.want rfl rfl rfl (WL.move rfl rfl (WL.want rfl rfl rfl (WL.move rfl rfl (?_))))))))
              refine WL.want rfl rfl rfl (?_)
              refine WL.indexT Tryd.underlying76 Tryd.sizeOf75 hr rfl rfl ⟨hx, rfl⟩ rfl ?_
              intro b_4 o_4 hc_4
              refine WL.want rfl rfl rfl (WL.fieldAddr (fld_75_0) rfl rfl (WL.want rfl rfl rfl (WL.load Tryd.isAgg3 rfl (hc_4 _ _ rfl) rfl (WL.want rfl rfl rfl (?_)))))
              refine WL.eql? rfl rfl rfl (fun h71 => ?_) (fun h71 => ?_)
              ·
                refine WL.want rfl rfl rfl (WL.move rfl rfl (WL.want rfl rfl rfl (WL.move rfl rfl (WL.want rfl rfl rfl (WL.move rfl rfl (WL.want rfl rfl rfl (?_)))))))
                refine WL.indexT Tryd.underlying76 Tryd.sizeOf75 hr rfl rfl ⟨hx, rfl⟩ rfl ?_
                intro b_5 o_5 hc_5
                refine WL.want rfl rfl rfl (WL.fieldAddr (fld_75_1) rfl rfl (WL.want rfl rfl rfl (WL.load Tryd.isAgg3 rfl (hc_5 _ _ rfl) rfl (WL.want rfl rfl rfl (?_)))))
                refine WL.neq? rfl rfl rfl (fun h78 => ?_) (fun h78 => ?_)
                ·
                  refine WL.want rfl rfl rfl (WL.pickT rfl rfl rfl (WL.pickF rfl rfl rfl (WL.nil (WX.then_normal (WC.cond_true rfl (WC.seq (WC.region (?_))))))))
                  refine WL.assign rfl rfl (WL.nil (WX.then_normal (WC.ret (WX.block_ret (WX.then_ret (WX.then_ret (WX.block_ret (?_))))))))
                  refine WX.then_ret (?_)
                  refine WX.ret1 (.inl rfl) Tryd.results78 rfl ?_
                  refine ⟨_, rfl, ?_, hw⟩
                  congr 1
                  unfold checkE
                  by_cases h1 : 2000 < l.length ∨ l.any longI = true
                  ·
                    rw [if_pos h1]
                    all_goals (exfalso; rcases h1 with h8 | h8; omega; rw [hno] at h8; cases h8)
                  ·
                    rw [if_neg h1]
                    first
                      | (exfalso; apply h1; left; omega)
                      | (exfalso; apply h1; right; refine List.any_eq_true.2 ⟨x, List.mem_of_getElem? hx, ?_⟩; simp only [longI, decide_eq_true_eq]; omega)
                      | (by_cases hall' : l.all okI = true
                         ·
                           rw [if_pos hall']
                           all_goals
                             exfalso
                             have h9 := List.all_eq_true.1 hall' x (List.mem_of_getElem? hx)
                             simp only [okI, decide_eq_true_eq] at h9
                             rcases h9 with ⟨h8, h9⟩ | ⟨h8, h9⟩
                             ·
                               first | omega | exact absurd h9 (by assumption)
                             ·
                               omega
                         ·
                           rw [if_neg hall']
                           all_goals
                             exfalso
                             have h9 : l.length ≤ j := by omega
                             rw [List.take_of_length_le h9] at hall
                             exact hall' hall)
                ·
                  refine WL.want rfl rfl rfl (WL.pickT rfl rfl rfl (WL.pickF rfl rfl rfl (WL.nil (WX.then_normal (WC.cond_false rfl (WC.skip (WX.block_normal (?_))))))))
                  refine WX.then_normal (WC.region (WL.move rfl rfl (WL.add64 rfl rfl (by omega) rfl (WL.assign rfl rfl (WL.nil (?_))))))
                  first
                    | (refine WX.loop_next (i + 1) ⟨rfl, rfl, trivial⟩ ⟨by omega, ?_, hw⟩ (by show _ - _ < _ - _; omega)
                       have hx9 : longI x = false := by simp only [longI, decide_eq_false_iff_not]; omega
                       rw [List.take_add_one, hx, List.any_append, hno]
                       simp [hx9])
                    | (refine WX.loop_next (j + 1) ⟨rfl, rfl, trivial⟩ ⟨by omega, ?_, hw⟩ (by show _ - _ < _ - _; omega)
                       have hx9 : okI x = true := by
                         simp only [okI, decide_eq_true_eq]
                         first
                           | exact .inl ⟨by omega, by assumption⟩
                           | exact .inr ⟨by omega, by omega⟩
                       rw [List.take_add_one, hx, List.all_append, hall]
                       simp [hx9])
              ·
                refine WL.want rfl rfl rfl (WL.move rfl rfl (WL.pass rfl rfl rfl rfl (WL.pass rfl rfl rfl rfl (WL.pass rfl rfl rfl rfl (WL.pass rfl rfl rfl rfl (WL.pass rfl rfl rfl rfl (WL.pass rfl rfl rfl rfl (?_))))))))
                refine WL.want rfl rfl rfl (WL.pickF rfl rfl rfl (WL.pickF rfl rfl rfl (WL.nil (WX.then_normal (WC.cond_false rfl (WC.skip (WX.block_normal (?_))))))))
                refine WX.then_normal (WC.region (WL.move rfl rfl (WL.add64 rfl rfl (by omega) rfl (WL.assign rfl rfl (WL.nil (?_))))))
                first
                  | (refine WX.loop_next (i + 1) ⟨rfl, rfl, trivial⟩ ⟨by omega, ?_, hw⟩ (by show _ - _ < _ - _; omega)
                     have hx9 : longI x = false := by simp only [longI, decide_eq_false_iff_not]; omega
                     rw [List.take_add_one, hx, List.any_append, hno]
                     simp [hx9])
                  | (refine WX.loop_next (j + 1) ⟨rfl, rfl, trivial⟩ ⟨by omega, ?_, hw⟩ (by show _ - _ < _ - _; omega)
                     have hx9 : okI x = true := by
                       simp only [okI, decide_eq_true_eq]
                       first
                         | exact .inl ⟨by omega, by assumption⟩
                         | exact .inr ⟨by omega, by omega⟩
                     rw [List.take_add_one, hx, List.all_append, hall]
                     simp [hx9])
          ·
            refine WL.want rfl rfl rfl (WL.move rfl rfl (WL.pass rfl rfl rfl rfl (WL.pass rfl rfl rfl rfl (WL.pass rfl rfl rfl rfl (WL.pass rfl rfl rfl rfl (WL.pass rfl rfl rfl rfl (WL.pass rfl rfl rfl rfl (?_))))))))
            refine WL.want rfl rfl rfl (WL.pickF rfl rfl rfl (WL.pickF rfl rfl rfl (WL.move rfl rfl (WL.want rfl rfl rfl (WL.move rfl rfl (WL.want rfl rfl rfl (WL.move rfl rfl (?_))))))))
            refine WL.want rfl rfl rfl (?_)
            refine WL.indexT Tryd.underlying76 Tryd.sizeOf75 hr rfl rfl ⟨hx, rfl⟩ rfl ?_
            intro b_3 o_3 hc_3
            refine WL.want rfl rfl rfl (WL.fieldAddr (fld_75_0) rfl rfl (WL.want rfl rfl rfl (WL.load Tryd.isAgg3 rfl (hc_3 _ _ rfl) rfl (WL.want rfl rfl rfl (?_)))))
            refine WL.eql? rfl rfl rfl (fun h71 => ?_) (fun h71 => ?_)
            ·
              refine WL.want rfl rfl rfl (WL.move rfl rfl (WL.want rfl rfl rfl (WL.move rfl rfl (WL.want rfl rfl rfl (WL.move rfl rfl (WL.want rfl rfl rfl (?_)))))))
              refine WL.indexT Tryd.underlying76 Tryd.sizeOf75 hr rfl rfl ⟨hx, rfl⟩ rfl ?_
              intro b_4 o_4 hc_4
              refine WL.want rfl rfl rfl (WL.fieldAddr (fld_75_1) rfl rfl (WL.want rfl rfl rfl (WL.load Tryd.isAgg3 rfl (hc_4 _ _ rfl) rfl (WL.want rfl rfl rfl (?_)))))
              refine WL.neq? rfl rfl rfl (fun h78 => ?_) (fun h78 => ?_)
              ·
                refine WL.want rfl rfl rfl (WL.pickT rfl rfl rfl (WL.pickF rfl rfl rfl (WL.nil (WX.then_normal (WC.cond_true rfl (WC.seq (WC.region (?_))))))))
                refine WL.assign rfl rfl (WL.nil (WX.then_normal (WC.ret (WX.block_ret (WX.then_ret (WX.then_ret (WX.block_ret (?_))))))))
                refine WX.then_ret (?_)
                refine WX.ret1 (.inl rfl) Tryd.results78 rfl ?_
                refine ⟨_, rfl, ?_, hw⟩
                congr 1
                unfold checkE
                by_cases h1 : 2000 < l.length ∨ l.any longI = true
                ·
                  rw [if_pos h1]
                  all_goals (exfalso; rcases h1 with h8 | h8; omega; rw [hno] at h8; cases h8)
                ·
                  rw [if_neg h1]
                  first
                    | (exfalso; apply h1; left; omega)
                    | (exfalso; apply h1; right; refine List.any_eq_true.2 ⟨x, List.mem_of_getElem? hx, ?_⟩; simp only [longI, decide_eq_true_eq]; omega)
                    | (by_cases hall' : l.all okI = true
                       ·
                         rw [if_pos hall']
                         all_goals
                           exfalso
                           have h9 := List.all_eq_true.1 hall' x (List.mem_of_getElem? hx)
                           simp only [okI, decide_eq_true_eq] at h9
                           rcases h9 with ⟨h8, h9⟩ | ⟨h8, h9⟩
                           ·
                             first | omega | exact absurd h9 (by assumption)
                           ·
                             omega
                       ·
                         rw [if_neg hall']
                         all_goals
                           exfalso
                           have h9 : l.length ≤ j := by omega
                           rw [List.take_of_length_le h9] at hall
                           exact hall' hall)
              ·
                refine WL.want rfl rfl rfl (WL.pickT rfl rfl rfl (WL.pickF rfl rfl rfl (WL.nil (WX.then_normal (WC.cond_false rfl (WC.skip (WX.block_normal (?_))))))))
                refine WX.then_normal (WC.region (WL.move rfl rfl (WL.add64 rfl rfl (by omega) rfl (WL.assign rfl rfl (WL.nil (?_))))))
                first
                  | (refine WX.loop_next (i + 1) ⟨rfl, rfl, trivial⟩ ⟨by omega, ?_, hw⟩ (by show _ - _ < _ - _; omega)
                     have hx9 : longI x = false := by simp only [longI, decide_eq_false_iff_not]; omega
                     rw [List.take_add_one, hx, List.any_append, hno]
                     simp [hx9])
                  | (refine WX.loop_next (j + 1) ⟨rfl, rfl, trivial⟩ ⟨by omega, ?_, hw⟩ (by show _ - _ < _ - _; omega)
                     have hx9 : okI x = true := by
                       simp only [okI, decide_eq_true_eq]
                       first
                         | exact .inl ⟨by omega, by assumption⟩
                         | exact .inr ⟨by omega, by omega⟩
                     rw [List.take_add_one, hx, List.all_append, hall]
                     simp [hx9])
            ·
              refine WL.want rfl rfl rfl (WL.move rfl rfl (WL.pass rfl rfl rfl rfl (WL.pass rfl rfl rfl rfl (WL.pass rfl rfl rfl rfl (WL.pass rfl rfl rfl rfl (WL.pass rfl rfl rfl rfl (WL.pass rfl rfl rfl rfl (?_))))))))
              refine WL.want rfl rfl rfl (WL.pickF rfl rfl rfl (WL.pickF rfl rfl rfl (WL.nil (WX.then_normal (WC.cond_false rfl (WC.skip (WX.block_normal (?_))))))))
              refine WX.then_normal (WC.region (WL.move rfl rfl (WL.add64 rfl rfl (by omega) rfl (WL.assign rfl rfl (WL.nil (?_))))))
              first
                | (refine WX.loop_next (i + 1) ⟨rfl, rfl, trivial⟩ ⟨by omega, ?_, hw⟩ (by show _ - _ < _ - _; omega)
                   have hx9 : longI x = false := by simp only [longI, decide_eq_false_iff_not]; omega
                   rw [List.take_add_one, hx, List.any_append, hno]
                   simp [hx9])
                | (refine WX.loop_next (j + 1) ⟨rfl, rfl, trivial⟩ ⟨by omega, ?_, hw⟩ (by show _ - _ < _ - _; omega)
                   have hx9 : okI x = true := by
                     simp only [okI, decide_eq_true_eq]
                     first
                       | exact .inl ⟨by omega, by assumption⟩
                       | exact .inr ⟨by omega, by omega⟩
                   rw [List.take_add_one, hx, List.all_append, hall]
                   simp [hx9])
      ·
        refine WL.nil (WX.then_normal (WC.cond_false rfl (WC.exit (WX.then_exit (WX.then_exit (WX.block_here (WX.then_normal (?_))))))))
        refine WC.seq (WC.region (WL.assign rfl rfl (WL.nil (WX.then_normal (WC.ret (?_))))))
        refine WX.ret1 (.inl rfl) Tryd.results78 rfl ?_
        refine ⟨_, rfl, ?_, hw⟩
        congr 1
        unfold checkE
        by_cases h1 : 2000 < l.length ∨ l.any longI = true
        ·
          rw [if_pos h1]
          all_goals (exfalso; rcases h1 with h8 | h8; omega; rw [hno] at h8; cases h8)
        ·
          rw [if_neg h1]
          first
            | (exfalso; apply h1; left; omega)
            | (exfalso; apply h1; right; refine List.any_eq_true.2 ⟨x, List.mem_of_getElem? hx, ?_⟩; simp only [longI, decide_eq_true_eq]; omega)
            | (by_cases hall' : l.all okI = true
               ·
                 rw [if_pos hall']
                 all_goals
                   exfalso
                   have h9 := List.all_eq_true.1 hall' x (List.mem_of_getElem? hx)
                   simp only [okI, decide_eq_true_eq] at h9
                   rcases h9 with ⟨h8, h9⟩ | ⟨h8, h9⟩
                   ·
                     first | omega | exact absurd h9 (by assumption)
                   ·
                     omega
               ·
                 rw [if_neg hall']
                 all_goals
                   exfalso
                   have h9 : l.length ≤ j := by omega
                   rw [List.take_of_length_le h9] at hall
                   exact hall' hall)
end Go.Proofs.YtjeldcjchipdgaaDoor
namespace Go.Proofs.YtjeldcjchipdgaaDoor
open Go.RowKit Go.HL
set_option maxRecDepth 100000

/-! numbers: the document's count -/
def zig (n : Int) : Nat := if n < 0 then (-2 * n - 1).toNat else (2 * n).toNat
theorem zigU_zig {n : Int} (h : -9223372036854775808 ≤ n ∧ n ≤ 9223372036854775807) : (zigU n).toNat = zig n := by
  unfold zigU zig
  rw [UInt64.toNat_xor, UInt64.toNat_shiftLeft]
  have e1 : (UInt64.ofNat 1).toNat % 64 = 1 := by decide
  rw [e1, Nat.shiftLeft_eq]
  split
  · have e2 : n / 2 ^ 63 = -1 := by omega
    have e3 : (B64 (n / 2 ^ 63)).toNat = 18446744073709551615 := by rw [e2]; decide
    have e4 : (B64 n).toNat = (n + 18446744073709551616).toNat := by simp [B64]; omega
    rw [e3, e4]
    have e5 : (n + 18446744073709551616).toNat * 2 ^ 1 % 2 ^ 64 = (2 * n + 18446744073709551616).toNat := by omega
    rw [e5]
    have hlt : (2 * n + 18446744073709551616).toNat < 2 ^ 64 := by omega
    have e6 : (2 * n + 18446744073709551616).toNat ^^^ 18446744073709551615 = 18446744073709551615 - (2 * n + 18446744073709551616).toNat := by
      have := BitVec.toNat_not (x := BitVec.ofNat 64 (2 * n + 18446744073709551616).toNat)
      rw [BitVec.toNat_ofNat, Nat.mod_eq_of_lt hlt] at this
      rw [← BitVec.xor_allOnes, BitVec.toNat_xor, BitVec.toNat_ofNat, Nat.mod_eq_of_lt hlt, BitVec.toNat_allOnes] at this
      exact this
    rw [e6]
    omega
  · have e2 : n / 2 ^ 63 = 0 := by omega
    have e3 : (B64 (n / 2 ^ 63)).toNat = 0 := by rw [e2]; decide
    have e4 : (B64 n).toNat = n.toNat := by simp [B64]; omega
    rw [e3, e4, Nat.xor_zero]
    omega
theorem told_calls {n : Int} (w : World) (h : -9223372036854775808 ≤ n ∧ n ≤ 9223372036854775807) : Calls Tryd.prog 77 [vi n].toArray w (Ret fun v w' => (∃ u : UInt64, v = v64 u ∧ u.toNat = zig n) ∧ Chg Nob w w') := by
  have hw := Chg.refl Nob w
  refine Calls.of_WC Tryd.func77 rfl Tryd.ntmps77 (by simp) ?_
  refine WC.seq (WC.region (WL.assign rfl rfl (WL.nil (WX.then_normal (WC.seq (WC.seq (WC.region (?_))))))))
  refine WL.move rfl rfl (?_)
  refine WL.lss? rfl rfl rfl (fun h4 => ?_) (fun h4 => ?_)
  ·
    refine WL.nil (WX.then_normal (WC.cond_true rfl (WC.seq (WC.region (WL.move rfl rfl (WL.add64 rfl rfl (by omega) rfl (WL.neg64 rfl (by omega) rfl (?_))))))))
    refine WL.c_i64_u64 Tryd.underlying3 Tryd.underlying44 rfl rfl (WL.num rfl rfl (n_mul64 _ _ 2 _) rfl (WL.num rfl rfl (n_add64 _ _ _ 1) rfl (WL.assign rfl rfl (WL.nil (WX.then_normal (WC.ret (WX.then_ret (?_))))))))
    refine WX.ret1 (.inl rfl) Tryd.results77 rfl ?_
    refine ⟨_, rfl, ⟨_, rfl, ?_⟩, hw⟩
    unfold zig
    first
      | (rw [if_pos h4]
         have e4 : (B64 (-(n + 1))).toNat = (-(n + 1)).toNat := by simp [B64]; omega
         simp only [UInt64.toNat_add, UInt64.toNat_mul, e4]
         simp
         omega)
      | (rw [if_neg (Int.not_lt.2 h4)]
         have e4 : (B64 n).toNat = n.toNat := by simp [B64]; omega
         simp only [UInt64.toNat_mul, e4]
         simp
         omega)
  ·
    refine WL.nil (WX.then_normal (WC.cond_false rfl (WC.skip (WX.then_normal (WC.seq (WC.region (WL.move rfl rfl (?_))))))))
    refine WL.c_i64_u64 Tryd.underlying3 Tryd.underlying44 rfl rfl (WL.num rfl rfl (n_mul64 _ _ 2 _) rfl (WL.assign rfl rfl (WL.nil (WX.then_normal (WC.ret (?_))))))
    refine WX.ret1 (.inl rfl) Tryd.results77 rfl ?_
    refine ⟨_, rfl, ⟨_, rfl, ?_⟩, hw⟩
    unfold zig
    first
      | (rw [if_pos h4]
         have e4 : (B64 (-(n + 1))).toNat = (-(n + 1)).toNat := by simp [B64]; omega
         simp only [UInt64.toNat_add, UInt64.toNat_mul, e4]
         simp
         omega)
      | (rw [if_neg (Int.not_lt.2 h4)]
         have e4 : (B64 n).toNat = n.toNat := by simp [B64]; omega
         simp only [UInt64.toNat_mul, e4]
         simp
         omega)
theorem rcount_calls (n : UInt64) (w : World) : Calls Tryd.prog 76 [v64 n].toArray w (Ret fun v w' => v = .string ⟨(cnt n.toNat).toArray⟩ ∧ Chg Nob w w') := by
  refine Calls.of_WC Tryd.func76 rfl Tryd.ntmps76 (by simp) ?_
  refine WC.seq (WC.region (WL.assign rfl rfl (WL.nil (WX.then_normal (WC.seq (WC.region (WL.assign rfl rfl (?_))))))))
  refine WL.nil (WX.then_normal (WC.seq (WC.block (?_))))
  refine WC.loop (σ := List UInt8 × Option Addr × Nat × UInt64) (fun s => [(3, .slice s.2.1 s.1.length s.2.2.1), (0, v64 s.2.2.2)])
    (fun s w' => s.1 ++ cnt s.2.2.2.toNat = cnt n.toNat ∧ Row (w.heap.size ≤ ·) w' 5 eb s.2.1 s.2.2.1 s.1 ∧ Chg Nob w w') (fun s => s.2.2.2.toNat) ([], none, 0, n) ⟨rfl, rfl, trivial⟩ ⟨rfl, Row.nil _ _ _ _, Chg.refl _ _⟩ ?_
  rintro ⟨ys, a1, c1, m⟩ w1 ⟨he, hq, hw⟩
  dsimp only at he hq hw ⊢
  have hlen : ys.length ≤ 10 := by
    have h1 := congrArg List.length he
    have h2 := cnt_len64 n
    simp only [List.length_append] at h1
    omega
  have zw := hw.size
  refine WC.seq (WC.seq (WC.region (WL.move rfl rfl (?_))))
  refine WL.geq? rfl rfl rfl (fun h5 => ?_) (fun h5 => ?_)
  ·
    refine WL.nil (WX.then_normal (WC.cond_true rfl (WC.skip (WX.then_normal (WC.block (WC.seq (WC.region (?_))))))))
    refine WL.move rfl rfl (WL.move rfl rfl (WL.num rfl rfl (n_rem64 _ _ _ 128 (by decide)) rfl (WL.num rfl rfl (n_add64 _ _ 128 _) rfl (WL.c_u64_u8 Tryd.underlying44 Tryd.underlying5 rfl rfl (?_)))))
    refine WL.build (e := eb) [(128 + m % 128).toUInt8] Tryd.underlying26 Tryd.sizeOf5 Tryd.zeroValue5 rfl rfl rfl (by simp [Value.cells] <;> rfl) (by decide) rfl ?_
    intro a_hn w_hn hn l_hn z_hn k_hn
    have zs_k_hn := k_hn.size
    replace hq := hq.pure k_hn
    replace hw := hw.pure k_hn
    refine WL.append (e := eb) info_5 rfl Tryd.underlying26 rfl rfl hq (hn.rsl.src Tryd.underlying26) (by (try simp only [List.length_append, List.length_cons, List.length_nil] at *); omega) (by intro b hb; first | (apply hS; omega) | ((try dsimp only); omega)) rfl ?_
    intro a_hq2 c_hq2 w_hq2 hq2 g_hq2 n_hq2
    have z_hq2 := g_hq2.chg.size
    have zs_g_hq2_chg := g_hq2.chg.size
    replace hw := hw.chg g_hq2.chg (by intros; exfalso; (try dsimp only at *); omega)
    refine WL.assign rfl rfl (WL.nil (WX.then_normal (WC.region (WL.move rfl rfl (WL.num rfl rfl (n_quo64 _ _ _ 128 (by decide)) rfl (WL.assign rfl rfl (WL.nil (?_))))))))
    refine WX.block_normal (?_)
    have hm : (m / 128).toNat = m.toNat / 128 := by simp
    have hb : (128 + m % 128).toUInt8 = UInt8.ofNat (m.toNat % 128 + 128) := by
      apply UInt8.toNat_inj.1
      simp
      omega
    refine WX.loop_next (ys ++ [(128 + m % 128).toUInt8], a_hq2, c_hq2, m / 128) ⟨rfl, rfl, trivial⟩ ⟨?_, hq2, hw⟩ ?_
    ·
      dsimp only
      rw [← he, hm, cnt_big (n := m.toNat) (by omega), hb]
      simp
    ·
      show (m / 128).toNat < m.toNat
      rw [hm]; omega
  ·
    refine WL.nil (WX.then_normal (WC.cond_false rfl (WC.exit (WX.then_exit (WX.then_exit (WX.block_here (WX.then_normal (?_))))))))
    refine WC.seq (WC.region (WL.move rfl rfl (WL.move rfl rfl (WL.c_u64_u8 Tryd.underlying44 Tryd.underlying5 rfl rfl (?_)))))
    refine WL.build (e := eb) [m.toUInt8] Tryd.underlying26 Tryd.sizeOf5 Tryd.zeroValue5 rfl rfl rfl (by simp [Value.cells] <;> rfl) (by decide) rfl ?_
    intro a_hn w_hn hn l_hn z_hn k_hn
    have zs_k_hn := k_hn.size
    replace hq := hq.pure k_hn
    replace hw := hw.pure k_hn
    refine WL.append (e := eb) info_5 rfl Tryd.underlying26 rfl rfl hq (hn.rsl.src Tryd.underlying26) (by (try simp only [List.length_append, List.length_cons, List.length_nil] at *); omega) (by intro b hb; first | (apply hS; omega) | ((try dsimp only); omega)) rfl ?_
    intro a_hq2 c_hq2 w_hq2 hq2 g_hq2 n_hq2
    have z_hq2 := g_hq2.chg.size
    have zs_g_hq2_chg := g_hq2.chg.size
    replace hw := hw.chg g_hq2.chg (by intros; exfalso; (try dsimp only at *); omega)
    refine WL.toStr Tryd.underlying26 Tryd.underlying5 Tryd.underlying9 hq2.rsl rfl rfl (WL.assign rfl rfl (WL.nil (WX.then_normal (WC.ret (?_)))))
    refine WX.ret1 (.inl rfl) Tryd.results76 rfl ?_
    refine ⟨_, rfl, ?_, hw⟩
    have hx : cnt n.toNat = ys ++ [m.toUInt8] := by
      rw [← he, cnt_small (by omega)]; rfl
    rw [hx]
def RIt (i : Item) : Prop := -9223372036854775808 ≤ i.n ∧ i.n ≤ 9223372036854775807
/-- the document's bytes of an item -/
def renc1 (i : Item) : List UInt8 := if i.kind = 1 then 1 :: cnt (zig i.n) else 2 :: (cnt i.s.size ++ i.s.data.toList)
theorem renc1_eq {i : Item} (h : okI i = true) (hr : RIt i) : renc1 i = enc1 i := by
  unfold renc1 enc1
  simp only [okI, decide_eq_true_eq] at h
  split
  · rename_i h1
    rw [zigU_zig hr, h1]
    rfl
  · have h1 : i.kind = 2 := by omega
    rw [h1]
    rfl
theorem rencode_calls {w : World} {ao : Option Addr} {c : Nat} {l : List Item} (hr : RSl (· < w.heap.size) w eit ao c l) (hl : l.length ≤ 2000) (hok : ∀ i ∈ l, longI i = false ∧ okI i = true) (hwf : ∀ i ∈ l, RIt i) :
    Calls Tryd.prog 60 [.slice ao l.length c].toArray w (Ret fun v w' => v = .string ⟨(encAll l).toArray⟩ ∧ Chg Nob w w') := by
  refine Calls.of_WC Tryd.func60 rfl Tryd.ntmps60 (by simp) ?_
  refine WC.seq (WC.region (WL.assign rfl rfl (WL.nil (WX.then_normal (WC.seq (WC.region (WL.assign rfl rfl (?_))))))))
  refine WL.nil (WX.then_normal (WC.seq (WC.seq (WC.region (WL.assign rfl rfl (WL.nil (WX.then_normal (?_))))))))
  refine WC.block (?_)
  refine WC.loop (σ := Nat × Option Addr × Nat) (fun s => [(3, .slice s.2.1 (encAll (l.take s.1)).length s.2.2), (0, .slice ao l.length c), (4, vi s.1)])
    (fun s w' => s.1 ≤ l.length ∧ Row (w.heap.size ≤ ·) w' 5 eb s.2.1 s.2.2 (encAll (l.take s.1)) ∧ Chg Nob w w' ∧ RSl (· < w.heap.size) w' eit ao c l) (fun s => l.length - s.1) (0, none, 0) ⟨rfl, rfl, rfl, trivial⟩ ⟨Nat.zero_le _, Row.nil _ _ _ _, Chg.refl _ _, hr⟩ ?_
  clear hr
  rintro ⟨i, a1, c1⟩ w2 ⟨hi, hb, hw, hr⟩
  dsimp only at hi hb hw hr ⊢
  have zw := hw.size
  have hel := encAll_len (l := l.take i) (fun j hj => hok j (List.mem_of_mem_take hj))
  have hlt := List.length_take_le i l
  refine WC.seq (WC.seq (WC.region (WL.move rfl rfl (WL.move rfl rfl (WL.len Tryd.underlying76 rfl rfl (?_))))))
  refine WL.lss? rfl rfl rfl (fun h8 => ?_) (fun h8 => ?_)
  ·
    refine WL.nil (WX.then_normal (WC.cond_true rfl (WC.skip (WX.then_normal (WC.seq (WC.block (WC.seq (?_))))))))
    refine WC.region (WL.move rfl rfl (WL.move rfl rfl (?_)))
    obtain ⟨x, hx⟩ : ∃ x, l[i]? = some x := ⟨_, List.getElem?_eq_getElem (by omega)⟩
    have hx2 := hok x (List.mem_of_getElem? hx)
    have hxr := hwf x (List.mem_of_getElem? hx)
    have hx3 : encAll (l.take (i + 1)) = encAll (l.take i) ++ renc1 x := by rw [List.take_add_one, hx, renc1_eq hx2.2 hxr]; exact encAll_snoc _ _
    obtain ⟨bp, op, rfl⟩ := hr.place hx
    refine WL.indexT Tryd.underlying76 Tryd.sizeOf75 hr rfl rfl ⟨hx, rfl⟩ rfl ?_
    intro b_1 o_1 hc_1
    refine WL.fieldAddr (fld_75_0) rfl rfl (WL.load Tryd.isAgg3 rfl (hc_1 _ _ rfl) rfl (?_))
    refine WL.eql? rfl rfl rfl (fun h16 => ?_) (fun h16 => ?_)
    ·
      refine WL.nil (WX.then_normal (WC.cond_true rfl (?_)))
      refine WC.draw (fun b => Eqb a1 b ∧ (fun b => w.heap.size ≤ b) b) [0, 3, 4, 5, 6, 7] [1, 2, 8, 9, 10, 11] mixed rfl rfl (fun wd_2 kd_2 zd_2 => ?_)
      have zs_kd_2 := kd_2.size
      replace hr := hr.pure kd_2
      replace hb := hb.pure kd_2
      replace hw := hw.pure kd_2
      apply DQ.step (E' := [(3, _)])
      case ho => rfl
      case hs => exact ⟨rfl, trivial⟩
      case hk => rfl
      case h1 =>
        intro wq_4 kq_4
        refine WL.move rfl rfl (?_)
        refine WL.nil ?_
        exact WX.one ⟨rfl, by exact Chg.refl _ _⟩
      apply DQ.step (E' := [(0, _)])
      case ho => rfl
      case hs => exact ⟨rfl, trivial⟩
      case hk => rfl
      case h1 =>
        intro wq_5 kq_5
        refine WL.move rfl rfl (?_)
        refine WL.nil ?_
        exact WX.one ⟨rfl, by exact Chg.refl _ _⟩
      apply DQ.step (E' := [(4, _)])
      case ho => rfl
      case hs => exact ⟨rfl, trivial⟩
      case hk => rfl
      case h1 =>
        intro wq_6 kq_6
        refine WL.move rfl rfl (?_)
        refine WL.nil ?_
        exact WX.one ⟨rfl, by exact Chg.refl _ _⟩
      apply DQ.step (E' := [(20, _), (21, _)])
      case ho => rfl
      case hs => exact ⟨rfl, rfl, trivial⟩
      case hk => rfl
      case h1 =>
        intro wq_7 kq_7
        have zs_kq_7 := kq_7.size
        replace hr := hr.chg kq_7 (by intros; exfalso; (try dsimp only at *); omega)
        replace hw := hw.chg kq_7 (by intros; exfalso; (try dsimp only at *); omega)
        refine WL.indexC hr Tryd.underlying76 Tryd.sizeOf75 rfl rfl ⟨hx, rfl⟩ rfl ?_
        refine WL.nil ?_
        exact WX.one ⟨rfl, by exact Chg.refl _ _⟩
      apply DQ.step (E' := [(22, _)])
      case ho => rfl
      case hs => exact ⟨rfl, trivial⟩
      case hk => rfl
      case h1 =>
        intro wq_8 kq_8
        refine WL.fieldAddr (fld_75_1) rfl rfl (?_)
        refine WL.nil ?_
        exact WX.one ⟨rfl, by exact Chg.refl _ _⟩
      apply DQ.step (E' := [(23, _)])
      case ho => rfl
      case hs => exact ⟨rfl, trivial⟩
      case hk => rfl
      case h1 =>
        intro wq_9 kq_9
        have zs_kq_9 := kq_9.size
        replace hr := hr.chg kq_9 (by intros; exfalso; (try dsimp only at *); omega)
        replace hw := hw.chg kq_9 (by intros; exfalso; (try dsimp only at *); omega)
        refine WL.load Tryd.isAgg3 rfl ((hr.cellsAt hx) _ _ rfl) rfl (?_)
        refine WL.nil ?_
        exact WX.one ⟨rfl, by exact Chg.refl _ _⟩
      refine DQ.doneG (S := fun b => w.heap.size ≤ b) (a := a1) (fun hd_3 => ?_)
      refine DL.step [] rfl trivial rfl (fun wq_10 kq_10 => ?_)
      have zs_kq_10 := kq_10.size
      replace hd_3 := hd_3.pure kq_10
      replace hr := hr.pure kq_10
      replace hb := hb.pure kq_10
      replace hw := hw.pure kq_10
      refine WL.build (e := eb) [1] Tryd.underlying26 Tryd.sizeOf5 Tryd.zeroValue5 rfl rfl rfl (by simp [Value.cells] <;> rfl) (by decide) rfl ?_
      intro a_hq w_hq hq l_hq z_hq k_hq
      have zs_k_hq := k_hq.size
      replace hd_3 := hd_3.pure k_hq
      replace hr := hr.pure k_hq
      replace hb := hb.pure k_hq
      replace hw := hw.pure k_hq
      refine WL.nil ?_
      refine WX.one ⟨hd_3.chg, ?_⟩
      refine DL.step [(17, _), (18, _)] rfl ⟨rfl, rfl, trivial⟩ rfl (fun wq_11 kq_11 => ?_)
      have zs_kq_11 := kq_11.size
      replace hd_3 := hd_3.pure kq_11
      replace hr := hr.pure kq_11
      replace hb := hb.pure kq_11
      replace hw := hw.pure kq_11
      replace hq := hq.pure kq_11
      refine WL.append (e := eb) info_5 rfl Tryd.underlying26 rfl rfl hb (hq.rsl.src Tryd.underlying26) (by (try simp only [List.length_append, List.length_cons, List.length_nil] at *); omega) (by intro b hb; first | (apply hS; omega) | ((try dsimp only); omega)) rfl ?_
      intro a_hb2 c_hb2 w_hb2 hb2 g_hb2 n_hb2
      have z_hb2 := g_hb2.chg.size
      replace hd_3 := hd_3.trans g_hb2
      have zs_g_hb2_chg := g_hb2.chg.size
      replace hr := hr.chg g_hb2.chg (by intros; exfalso; (try dsimp only at *); omega)
      replace hw := hw.chg g_hb2.chg (by intros; exfalso; (try dsimp only at *); omega)
      refine WL.nil ?_
      refine WX.one ⟨hd_3.chg, ?_⟩
      refine DL.step [(24, _)] rfl ⟨rfl, trivial⟩ rfl (fun wq_12 kq_12 => ?_)
      have zs_kq_12 := kq_12.size
      replace hd_3 := hd_3.pure kq_12
      replace hr := hr.pure kq_12
      replace hw := hw.pure kq_12
      replace hb2 := hb2.pure kq_12
      refine WL.call eg_77 rfl rfl (told_calls _ hxr) ?_
      rintro v w4 ⟨⟨u, rfl, hu⟩, k4⟩
      have zs_k4 := k4.size
      replace hd_3 := hd_3.pure k4
      replace hr := hr.pure k4
      replace hw := hw.pure k4
      replace hb2 := hb2.pure k4
      refine WL.nil ?_
      refine WX.one ⟨hd_3.chg, ?_⟩
      refine DL.step [(25, _)] rfl ⟨rfl, trivial⟩ rfl (fun wq_13 kq_13 => ?_)
      have zs_kq_13 := kq_13.size
      replace hd_3 := hd_3.pure kq_13
      replace hr := hr.pure kq_13
      replace hw := hw.pure kq_13
      replace hb2 := hb2.pure kq_13
      have hcl := cnt_len64 u
      refine WL.call eg_76 rfl rfl (rcount_calls u _) ?_
      rintro v w5 ⟨rfl, k5⟩
      have zs_k5 := k5.size
      replace hd_3 := hd_3.pure k5
      replace hr := hr.pure k5
      replace hw := hw.pure k5
      replace hb2 := hb2.pure k5
      refine WL.nil ?_
      refine WX.one ⟨hd_3.chg, ?_⟩
      refine DL.step [(19, _), (26, _)] rfl ⟨rfl, rfl, trivial⟩ rfl (fun wq_14 kq_14 => ?_)
      have zs_kq_14 := kq_14.size
      replace hd_3 := hd_3.pure kq_14
      replace hr := hr.pure kq_14
      replace hw := hw.pure kq_14
      replace hb2 := hb2.pure kq_14
      refine WL.append (e := eb) info_5 rfl Tryd.underlying26 rfl rfl hb2 (src_string _ Tryd.underlying9) (by (try simp only [List.length_append, List.length_cons, List.length_nil] at *); omega) (by intro b hb; first | (apply hS; omega) | ((try dsimp only); omega)) rfl ?_
      intro a_hb3 c_hb3 w_hb3 hb3 g_hb3 n_hb3
      have z_hb3 := g_hb3.chg.size
      replace hd_3 := hd_3.trans g_hb3
      have zs_g_hb3_chg := g_hb3.chg.size
      replace hr := hr.chg g_hb3.chg (by intros; exfalso; (try dsimp only at *); omega)
      replace hw := hw.chg g_hb3.chg (by intros; exfalso; (try dsimp only at *); omega)
      refine WL.nil ?_
      refine WX.one ⟨hd_3.chg, ?_⟩
      refine DL.step [(27, _)] rfl ⟨rfl, trivial⟩ rfl (fun wq_15 kq_15 => ?_)
      have zs_kq_15 := kq_15.size
      replace hd_3 := hd_3.pure kq_15
      replace hr := hr.pure kq_15
      replace hw := hw.pure kq_15
      replace hb3 := hb3.pure kq_15
      refine WL.assign rfl rfl (?_)
      refine WL.nil ?_
      refine WX.one ⟨hd_3.chg, ?_⟩
      refine DL.done (fun we_16 ke_16 => ?_)
      have zs_ke_16 := ke_16.size
      replace hd_3 := hd_3.pure ke_16
      replace hr := hr.pure ke_16
      replace hw := hw.pure ke_16
      replace hb3 := hb3.pure ke_16
      refine WX.block_normal (WX.then_normal (WC.region (WL.move rfl rfl (WL.add64 rfl rfl (by omega) rfl (WL.assign rfl rfl (WL.nil (?_)))))))
      first
        | (have h1 : encAll (l.take (i + 1)) = encAll (l.take i) ++ [1] ++ cnt u.toNat := by rw [hx3, renc1, if_pos h16, hu]; simp
           refine WX.loop_next (i + 1, a_hb3, c_hb3) ⟨?_, rfl, rfl, trivial⟩ ⟨by dsimp only; omega, ?_, hw, hr⟩ (by show _ - _ < _ - _; omega)
           ·
             dsimp only; rw [h1]; rfl
           ·
             dsimp only; rw [h1]; exact hb3)
        | (have h1 : encAll (l.take (i + 1)) = encAll (l.take i) ++ [2] ++ cnt (B64 x.s.size).toNat ++ x.s.data.toList := by
             have h5 : x.s.data.toList.length = x.s.size := by simp
             rw [hx3, renc1, if_neg h16, B64_nat (by omega)]; simp
           refine WX.loop_next (i + 1, a_hb4, c_hb4) ⟨?_, rfl, rfl, trivial⟩ ⟨by dsimp only; omega, ?_, hw, hr⟩ (by show _ - _ < _ - _; omega)
           ·
             dsimp only; rw [h1]; rfl
           ·
             dsimp only; rw [h1]; exact hb4)
    ·
      refine WL.nil (WX.then_normal (WC.cond_false rfl (?_)))
      refine WC.draw (fun b => Eqb a1 b ∧ (fun b => w.heap.size ≤ b) b) [0, 3, 4, 5, 6, 7, 8, 9, 12, 13, 14, 15, 16] [1, 2, 10, 11, 17, 18] mixed rfl rfl (fun wd_2 kd_2 zd_2 => ?_)
      have zs_kd_2 := kd_2.size
      replace hr := hr.pure kd_2
      replace hb := hb.pure kd_2
      replace hw := hw.pure kd_2
      apply DQ.step (E' := [(3, _)])
      case ho => rfl
      case hs => exact ⟨rfl, trivial⟩
      case hk => rfl
      case h1 =>
        intro wq_4 kq_4
        refine WL.move rfl rfl (?_)
        refine WL.nil ?_
        exact WX.one ⟨rfl, by exact Chg.refl _ _⟩
      apply DQ.step (E' := [(0, _)])
      case ho => rfl
      case hs => exact ⟨rfl, trivial⟩
      case hk => rfl
      case h1 =>
        intro wq_5 kq_5
        refine WL.move rfl rfl (?_)
        refine WL.nil ?_
        exact WX.one ⟨rfl, by exact Chg.refl _ _⟩
      apply DQ.step (E' := [(4, _)])
      case ho => rfl
      case hs => exact ⟨rfl, trivial⟩
      case hk => rfl
      case h1 =>
        intro wq_6 kq_6
        refine WL.move rfl rfl (?_)
        refine WL.nil ?_
        exact WX.one ⟨rfl, by exact Chg.refl _ _⟩
      apply DQ.step (E' := [(31, _), (32, _)])
      case ho => rfl
      case hs => exact ⟨rfl, rfl, trivial⟩
      case hk => rfl
      case h1 =>
        intro wq_7 kq_7
        have zs_kq_7 := kq_7.size
        replace hr := hr.chg kq_7 (by intros; exfalso; (try dsimp only at *); omega)
        replace hw := hw.chg kq_7 (by intros; exfalso; (try dsimp only at *); omega)
        refine WL.indexC hr Tryd.underlying76 Tryd.sizeOf75 rfl rfl ⟨hx, rfl⟩ rfl ?_
        refine WL.nil ?_
        exact WX.one ⟨rfl, by exact Chg.refl _ _⟩
      apply DQ.step (E' := [(33, _)])
      case ho => rfl
      case hs => exact ⟨rfl, trivial⟩
      case hk => rfl
      case h1 =>
        intro wq_8 kq_8
        refine WL.fieldAddr (fld_75_2) rfl rfl (?_)
        refine WL.nil ?_
        exact WX.one ⟨rfl, by exact Chg.refl _ _⟩
      apply DQ.step (E' := [(34, _)])
      case ho => rfl
      case hs => exact ⟨rfl, trivial⟩
      case hk => rfl
      case h1 =>
        intro wq_9 kq_9
        have zs_kq_9 := kq_9.size
        replace hr := hr.chg kq_9 (by intros; exfalso; (try dsimp only at *); omega)
        replace hw := hw.chg kq_9 (by intros; exfalso; (try dsimp only at *); omega)
        refine WL.load Tryd.isAgg9 rfl ((hr.cellsAt hx) _ _ rfl) rfl (?_)
        refine WL.nil ?_
        exact WX.one ⟨rfl, by exact Chg.refl _ _⟩
      apply DQ.step (E' := [(35, _)])
      case ho => rfl
      case hs => exact ⟨rfl, trivial⟩
      case hk => rfl
      case h1 =>
        intro wq_10 kq_10
        have zs_kq_10 := kq_10.size
        replace hr := hr.chg kq_10 (by intros; exfalso; (try dsimp only at *); omega)
        replace hw := hw.chg kq_10 (by intros; exfalso; (try dsimp only at *); omega)
        refine WL.lens Tryd.underlying9 rfl rfl (?_)
        refine WL.nil ?_
        exact WX.one ⟨rfl, by exact Chg.refl _ _⟩
      apply DQ.step (E' := [(36, _)])
      case ho => rfl
      case hs => exact ⟨rfl, trivial⟩
      case hk => rfl
      case h1 =>
        intro wq_11 kq_11
        have zs_kq_11 := kq_11.size
        replace hr := hr.chg kq_11 (by intros; exfalso; (try dsimp only at *); omega)
        replace hw := hw.chg kq_11 (by intros; exfalso; (try dsimp only at *); omega)
        refine WL.c_i64_u64 Tryd.underlying3 Tryd.underlying44 rfl rfl (?_)
        refine WL.nil ?_
        exact WX.one ⟨rfl, by exact Chg.refl _ _⟩
      apply DQ.step (E' := [(0, _)])
      case ho => rfl
      case hs => exact ⟨rfl, trivial⟩
      case hk => rfl
      case h1 =>
        intro wq_12 kq_12
        refine WL.move rfl rfl (?_)
        refine WL.nil ?_
        exact WX.one ⟨rfl, by exact Chg.refl _ _⟩
      apply DQ.step (E' := [(4, _)])
      case ho => rfl
      case hs => exact ⟨rfl, trivial⟩
      case hk => rfl
      case h1 =>
        intro wq_13 kq_13
        refine WL.move rfl rfl (?_)
        refine WL.nil ?_
        exact WX.one ⟨rfl, by exact Chg.refl _ _⟩
      apply DQ.step (E' := [(40, _), (41, _)])
      case ho => rfl
      case hs => exact ⟨rfl, rfl, trivial⟩
      case hk => rfl
      case h1 =>
        intro wq_14 kq_14
        have zs_kq_14 := kq_14.size
        replace hr := hr.chg kq_14 (by intros; exfalso; (try dsimp only at *); omega)
        replace hw := hw.chg kq_14 (by intros; exfalso; (try dsimp only at *); omega)
        refine WL.indexC hr Tryd.underlying76 Tryd.sizeOf75 rfl rfl ⟨hx, rfl⟩ rfl ?_
        refine WL.nil ?_
        exact WX.one ⟨rfl, by exact Chg.refl _ _⟩
      apply DQ.step (E' := [(42, _)])
      case ho => rfl
      case hs => exact ⟨rfl, trivial⟩
      case hk => rfl
      case h1 =>
        intro wq_15 kq_15
        refine WL.fieldAddr (fld_75_2) rfl rfl (?_)
        refine WL.nil ?_
        exact WX.one ⟨rfl, by exact Chg.refl _ _⟩
      apply DQ.step (E' := [(43, _)])
      case ho => rfl
      case hs => exact ⟨rfl, trivial⟩
      case hk => rfl
      case h1 =>
        intro wq_16 kq_16
        have zs_kq_16 := kq_16.size
        replace hr := hr.chg kq_16 (by intros; exfalso; (try dsimp only at *); omega)
        replace hw := hw.chg kq_16 (by intros; exfalso; (try dsimp only at *); omega)
        refine WL.load Tryd.isAgg9 rfl ((hr.cellsAt hx) _ _ rfl) rfl (?_)
        refine WL.nil ?_
        exact WX.one ⟨rfl, by exact Chg.refl _ _⟩
      refine DQ.doneG (S := fun b => w.heap.size ≤ b) (a := a1) (fun hd_3 => ?_)
      refine DL.step [] rfl trivial rfl (fun wq_17 kq_17 => ?_)
      have zs_kq_17 := kq_17.size
      replace hd_3 := hd_3.pure kq_17
      replace hr := hr.pure kq_17
      replace hb := hb.pure kq_17
      replace hw := hw.pure kq_17
      refine WL.build (e := eb) [2] Tryd.underlying26 Tryd.sizeOf5 Tryd.zeroValue5 rfl rfl rfl (by simp [Value.cells] <;> rfl) (by decide) rfl ?_
      intro a_hq w_hq hq l_hq z_hq k_hq
      have zs_k_hq := k_hq.size
      replace hd_3 := hd_3.pure k_hq
      replace hr := hr.pure k_hq
      replace hb := hb.pure k_hq
      replace hw := hw.pure k_hq
      refine WL.nil ?_
      refine WX.one ⟨hd_3.chg, ?_⟩
      refine DL.step [(28, _), (29, _)] rfl ⟨rfl, rfl, trivial⟩ rfl (fun wq_18 kq_18 => ?_)
      have zs_kq_18 := kq_18.size
      replace hd_3 := hd_3.pure kq_18
      replace hr := hr.pure kq_18
      replace hb := hb.pure kq_18
      replace hw := hw.pure kq_18
      replace hq := hq.pure kq_18
      refine WL.append (e := eb) info_5 rfl Tryd.underlying26 rfl rfl hb (hq.rsl.src Tryd.underlying26) (by (try simp only [List.length_append, List.length_cons, List.length_nil] at *); omega) (by intro b hb; first | (apply hS; omega) | ((try dsimp only); omega)) rfl ?_
      intro a_hb2 c_hb2 w_hb2 hb2 g_hb2 n_hb2
      have z_hb2 := g_hb2.chg.size
      replace hd_3 := hd_3.trans g_hb2
      have zs_g_hb2_chg := g_hb2.chg.size
      replace hr := hr.chg g_hb2.chg (by intros; exfalso; (try dsimp only at *); omega)
      replace hw := hw.chg g_hb2.chg (by intros; exfalso; (try dsimp only at *); omega)
      refine WL.nil ?_
      refine WX.one ⟨hd_3.chg, ?_⟩
      refine DL.step [(37, _)] rfl ⟨rfl, trivial⟩ rfl (fun wq_19 kq_19 => ?_)
      have zs_kq_19 := kq_19.size
      replace hd_3 := hd_3.pure kq_19
      replace hr := hr.pure kq_19
      replace hw := hw.pure kq_19
      replace hb2 := hb2.pure kq_19
      have hcl := cnt_len64 (B64 x.s.size)
      have hs4 : x.s.data.toList.length ≤ 4000 := by have h5 := hx2.1; have h6 := hx2.2; simp only [longI, okI, decide_eq_false_iff_not, decide_eq_true_eq] at h5 h6; rw [show x.s.data.toList.length = x.s.size from by simp]; omega
      refine WL.call eg_76 rfl rfl (rcount_calls (B64 x.s.size) _) ?_
      rintro v w5 ⟨rfl, k5⟩
      have zs_k5 := k5.size
      replace hd_3 := hd_3.pure k5
      replace hr := hr.pure k5
      replace hw := hw.pure k5
      replace hb2 := hb2.pure k5
      refine WL.nil ?_
      refine WX.one ⟨hd_3.chg, ?_⟩
      refine DL.step [(30, _), (38, _)] rfl ⟨rfl, rfl, trivial⟩ rfl (fun wq_20 kq_20 => ?_)
      have zs_kq_20 := kq_20.size
      replace hd_3 := hd_3.pure kq_20
      replace hr := hr.pure kq_20
      replace hw := hw.pure kq_20
      replace hb2 := hb2.pure kq_20
      refine WL.append (e := eb) info_5 rfl Tryd.underlying26 rfl rfl hb2 (src_string _ Tryd.underlying9) (by (try simp only [List.length_append, List.length_cons, List.length_nil] at *); omega) (by intro b hb; first | (apply hS; omega) | ((try dsimp only); omega)) rfl ?_
      intro a_hb3 c_hb3 w_hb3 hb3 g_hb3 n_hb3
      have z_hb3 := g_hb3.chg.size
      replace hd_3 := hd_3.trans g_hb3
      have zs_g_hb3_chg := g_hb3.chg.size
      replace hr := hr.chg g_hb3.chg (by intros; exfalso; (try dsimp only at *); omega)
      replace hw := hw.chg g_hb3.chg (by intros; exfalso; (try dsimp only at *); omega)
      refine WL.nil ?_
      refine WX.one ⟨hd_3.chg, ?_⟩
      refine DL.step [(39, _), (44, _)] rfl ⟨rfl, rfl, trivial⟩ rfl (fun wq_21 kq_21 => ?_)
      have zs_kq_21 := kq_21.size
      replace hd_3 := hd_3.pure kq_21
      replace hr := hr.pure kq_21
      replace hw := hw.pure kq_21
      replace hb3 := hb3.pure kq_21
      refine WL.append (e := eb) info_5 rfl Tryd.underlying26 rfl rfl hb3 (src_string _ Tryd.underlying9) (by (try simp only [List.length_append, List.length_cons, List.length_nil] at *); omega) (by intro b hb; first | (apply hS; omega) | ((try dsimp only); omega)) rfl ?_
      intro a_hb4 c_hb4 w_hb4 hb4 g_hb4 n_hb4
      have z_hb4 := g_hb4.chg.size
      replace hd_3 := hd_3.trans g_hb4
      have zs_g_hb4_chg := g_hb4.chg.size
      replace hr := hr.chg g_hb4.chg (by intros; exfalso; (try dsimp only at *); omega)
      replace hw := hw.chg g_hb4.chg (by intros; exfalso; (try dsimp only at *); omega)
      refine WL.nil ?_
      refine WX.one ⟨hd_3.chg, ?_⟩
      refine DL.step [(45, _)] rfl ⟨rfl, trivial⟩ rfl (fun wq_22 kq_22 => ?_)
      have zs_kq_22 := kq_22.size
      replace hd_3 := hd_3.pure kq_22
      replace hr := hr.pure kq_22
      replace hw := hw.pure kq_22
      replace hb4 := hb4.pure kq_22
      refine WL.assign rfl rfl (?_)
      refine WL.nil ?_
      refine WX.one ⟨hd_3.chg, ?_⟩
      refine DL.done (fun we_23 ke_23 => ?_)
      have zs_ke_23 := ke_23.size
      replace hd_3 := hd_3.pure ke_23
      replace hr := hr.pure ke_23
      replace hw := hw.pure ke_23
      replace hb4 := hb4.pure ke_23
      refine WX.block_normal (WX.then_normal (WC.region (WL.move rfl rfl (WL.add64 rfl rfl (by omega) rfl (WL.assign rfl rfl (WL.nil (?_)))))))
      first
        | (have h1 : encAll (l.take (i + 1)) = encAll (l.take i) ++ [1] ++ cnt u.toNat := by rw [hx3, renc1, if_pos h16, hu]; simp
           refine WX.loop_next (i + 1, a_hb3, c_hb3) ⟨?_, rfl, rfl, trivial⟩ ⟨by dsimp only; omega, ?_, hw, hr⟩ (by show _ - _ < _ - _; omega)
           ·
             dsimp only; rw [h1]; rfl
           ·
             dsimp only; rw [h1]; exact hb3)
        | (have h1 : encAll (l.take (i + 1)) = encAll (l.take i) ++ [2] ++ cnt (B64 x.s.size).toNat ++ x.s.data.toList := by
             have h5 : x.s.data.toList.length = x.s.size := by simp
             rw [hx3, renc1, if_neg h16, B64_nat (by omega)]; simp
           refine WX.loop_next (i + 1, a_hb4, c_hb4) ⟨?_, rfl, rfl, trivial⟩ ⟨by dsimp only; omega, ?_, hw, hr⟩ (by show _ - _ < _ - _; omega)
           ·
             dsimp only; rw [h1]; rfl
           ·
             dsimp only; rw [h1]; exact hb4)
  ·
    refine WL.nil (WX.then_normal (WC.cond_false rfl (WC.exit (WX.then_exit (WX.then_exit (WX.block_here (WX.then_normal (?_))))))))
    refine WC.seq (WC.region (WL.move rfl rfl (?_)))
    refine WL.toStr Tryd.underlying26 Tryd.underlying5 Tryd.underlying9 hb.rsl rfl rfl ?_
    refine WL.assign rfl rfl (WL.nil (WX.then_normal (WC.ret (?_))))
    refine WX.ret1 (.inl rfl) Tryd.results60 rfl ?_
    refine ⟨_, rfl, ?_, hw⟩
    rw [List.take_of_length_le (by omega)]
end Go.Proofs.YtjeldcjchipdgaaDoor
namespace Go.Proofs.YtjeldcjchipdgaaDoor
open Go.RowKit Go.HL
set_option maxRecDepth 100000

theorem docEncode_calls {w : World} {ao : Option Addr} {c : Nat} {l : List Item} (hr : RSl (· < w.heap.size) w eit ao c l) (hl : l.length ≤ 9223372036854775807) (hwf : ∀ i ∈ l, RIt i) :
    Calls Tryd.prog 62 [.slice ao l.length c].toArray w (Ret fun v w' => v = .tuple #[.string ⟨(if checkE l = 0 then encAll l else []).toArray⟩, vi (checkE l)] ∧ Chg Nob w w') := by
  have hw := Chg.refl Nob w
  refine Calls.of_WC Tryd.func62 rfl Tryd.ntmps62 (by simp) ?_
  refine WC.seq (WC.region (WL.assign rfl rfl (WL.assign rfl rfl (WL.nil (WX.then_normal (WC.seq (WC.region (?_))))))))
  refine WL.move rfl rfl (?_)
  refine WL.call eg_78 rfl rfl (rcheck_calls hr hl) ?_
  rintro v w1 ⟨rfl, k⟩
  have zs_k := k.size
  replace hr := hr.pure k
  replace hw := hw.pure k
  refine WL.assign rfl rfl (WL.nil (WX.then_normal (WC.seq (WC.seq (WC.region (WL.move rfl rfl (?_)))))))
  refine WL.neq? rfl rfl rfl (fun h8 => ?_) (fun h8 => ?_)
  ·
    refine WL.nil (WX.then_normal (WC.cond_true rfl (WC.seq (WC.region (WL.move rfl rfl (WL.assign rfl rfl (WL.assign rfl rfl (?_))))))))
    refine WL.nil (WX.then_normal (WC.ret (WX.then_ret (?_))))
    refine WX.ret2 (.inl rfl) Tryd.results62 rfl rfl ?_
    refine ⟨_, rfl, ?_, hw⟩
    first
      | (rw [if_neg h8])
      | (rw [if_pos h8, h8])
  ·
    refine WL.nil (WX.then_normal (WC.cond_false rfl (WC.skip (WX.then_normal (WC.seq (WC.region (WL.move rfl rfl (?_))))))))
    obtain ⟨hlen, hall⟩ := checkE_ok h8
    have hr1 := hr.old
    refine WL.call eg_60 rfl rfl (rencode_calls hr1 hlen hall hwf) ?_
    rintro v w1 ⟨rfl, k⟩
    have zs_k := k.size
    replace hr := hr.pure k
    replace hw := hw.pure k
    refine WL.assign rfl rfl (WL.assign rfl rfl (WL.nil (WX.then_normal (WC.ret (?_)))))
    refine WX.ret2 (.inl rfl) Tryd.results62 rfl rfl ?_
    refine ⟨_, rfl, ?_, hw⟩
    first
      | (rw [if_neg h8])
      | (rw [if_pos h8, h8])
def decL (b : List UInt8) : List Item := (dec 0 b).getD []
def decE (b : List UInt8) : Int := if (dec 0 b).isSome then 0 else 2
theorem decode_calls' {w : World} {ao : Option Addr} {c : Nat} {b : List UInt8} (hr : RSl (· < w.heap.size) w eb ao c b) (hl : b.length ≤ 140737488351232) :
    Calls Tryd.prog 70 [.slice ao b.length c].toArray w (Ret fun v w' => (∃ (ao' : Option Addr) (c' : Nat), v = .tuple #[.slice ao' (decL b).length c', vi (decE b)] ∧ Row (w.heap.size ≤ ·) w' 75 eit ao' c' (decL b)) ∧ Chg Nob w w') := by
  refine (decode_calls hr hl).mono ?_
  rintro e w' ⟨v, rfl, (⟨l, ao', c', rfl, h, hq⟩ | ⟨rfl, h⟩), k⟩
  · refine ⟨_, rfl, ⟨ao', c', ?_, ?_⟩, k⟩
    · simp [decL, decE, h]
    · simpa [decL, h] using hq
  · refine ⟨_, rfl, ⟨none, 0, ?_, ?_⟩, k⟩
    · simp [decL, decE, h]
    · simpa [decL, h] using Row.nil _ _ _ _
theorem ba_drop (s : ByteArray) (n : Nat) : (s.extract n s.size).data.toList = s.data.toList.drop n := by
  simp
  rw [List.take_of_length_le (by simp)]
theorem ba_take (s : ByteArray) (n : Nat) : s.extract 0 n = ⟨(s.data.toList.take n).toArray⟩ := by
  apply ByteArray.ext
  apply Array.ext'
  simp
theorem ba_nil {s : ByteArray} : s = ⟨#[]⟩ ↔ s.data.toList = [] := by
  constructor
  · rintro rfl; rfl
  · intro h
    apply ByteArray.ext
    apply Array.ext'
    simpa using h
set_option maxHeartbeats 1000000 in
theorem rdecode_calls {w : World} {s0 : ByteArray} (hl : s0.size ≤ 140737488351232) :
    Calls Tryd.prog 67 [.string s0].toArray w (Ret fun v w' => (∃ (ao' : Option Addr) (c' : Nat), v = .tuple #[.slice ao' (decL s0.data.toList).length c', vi (decE s0.data.toList)] ∧ Row (w.heap.size ≤ ·) w' 75 eit ao' c' (decL s0.data.toList)) ∧ Chg Nob w w') := by
  refine Calls.of_WC Tryd.func67 rfl Tryd.ntmps67 (by simp) ?_
  refine WC.seq (WC.region (WL.assign rfl rfl (WL.assign rfl rfl (WL.nil (WX.then_normal (WC.seq (WC.region (?_))))))))
  refine WL.assign rfl rfl (WL.nil (WX.then_normal (WC.seq (WC.block (?_)))))
  refine WC.loop (σ := (List Item × Option Addr × Nat) × ByteArray) (fun q => [(4, .slice q.1.2.1 q.1.1.length q.1.2.2), (0, .string q.2)])
    (fun q w' => q.1.1.length ≤ 2000 ∧ q.2.size ≤ s0.size ∧ decI s0.data.toList q.1.1 q.2.data.toList ∧ Row (w.heap.size ≤ ·) w' 75 eit q.1.2.1 q.1.2.2 q.1.1 ∧ Chg Nob w w') (fun q => q.2.size) (([], none, 0), s0) ⟨rfl, rfl, trivial⟩ ⟨by simp, Nat.le_refl _, decI_start _, Row.nil _ _ _ _, Chg.refl _ _⟩ ?_
  rintro ⟨⟨out, a1, c1⟩, s⟩ w1 ⟨ho, hbl, hi, hq, kk⟩
  dsimp only at ho hbl hi hq kk ⊢
  have zk := kk.size
  refine WC.seq (WC.seq (WC.region (WL.move rfl rfl (?_))))
  refine WL.sneq? rfl rfl rfl (fun h11 => ?_) (fun h11 => ?_)
  ·
    refine WL.nil (WX.then_normal (WC.cond_true rfl (WC.skip (WX.then_normal (WC.block (WC.seq (WC.region (?_))))))))
    refine WL.move rfl rfl (?_)
    obtain ⟨x, bs', hs⟩ : ∃ x bs', s.data.toList = x :: bs' := by
      cases hs : s.data.toList with
      | nil => exact absurd (ba_nil.2 hs) h11
      | cons x r => exact ⟨x, r, rfl⟩
    have hx : s.data.toList[0]? = some x := by rw [hs]; rfl
    have hxl := x.toNat_lt
    have hsz : s.size = bs'.length + 1 := by rw [show s.size = s.data.toList.length from by simp, hs]; rfl
    rw [hs] at hi
    refine WL.sindex Tryd.underlying9 rfl rfl _ rfl _ hx rfl ?_
    refine WL.assign rfl rfl (WL.nil (WX.then_normal (WC.seq (WC.region (WL.move rfl rfl (?_))))))
    refine WL.sslice (l := 1) (h := s.size) (j := .i64) Tryd.underlying9 rfl (.inl rfl) (.inr ⟨rfl, rfl⟩) (by constructor <;> omega) rfl ?_
    have e1 : (s.extract 1 s.size).data.toList = bs' := by rw [ba_drop, hs]; rfl
    refine WL.call eg_87 rfl rfl (number_calls (by simp; omega)) ?_
    rw [e1]
    rintro v w2 ⟨(⟨u, r, rfl, hc⟩ | ⟨rfl, hc⟩), k2⟩
    ·
      have zs_k2 := k2.size
      replace kk := kk.pure k2
      replace hq := hq.pure k2
      have hrb := (ctd_bound bs' 0 (by omega) hc).2.2
      have erz : r.data.toList.length = r.size := by simp
      have e64 : ((B64 (r.size : Int)).toNat : Int) = r.size := by rw [B64_nat (by omega)]
      have e2 : (u / 2).toNat = u.toNat / 2 := by simp
      have hul : u.toNat / 2 ≤ 9223372036854775807 := by have := u.toNat_lt; omega
      have e3 : (u % 2).toNat = u.toNat % 2 := by simp
      refine WL.move rfl rfl (WL.extract rfl rfl rfl (WL.extract rfl rfl rfl (WL.extract rfl rfl rfl (WL.assign rfl rfl (WL.assign rfl rfl (WL.assign rfl rfl (WL.nil (?_))))))))
      refine WX.then_normal (WC.seq (WC.seq (WC.region (WL.move rfl rfl (WL.not rfl rfl (WL.move rfl rfl (WL.want rfl rfl rfl (?_))))))))
      refine WL.move rfl rfl (WL.want rfl rfl rfl (?_))
      refine WL.neq? rfl rfl rfl (fun h25 => ?_) (fun h25 => ?_)
      ·
        refine WL.want rfl rfl rfl (WL.move rfl rfl (WL.want rfl rfl rfl (WL.move rfl rfl (WL.want rfl rfl rfl (?_)))))
        refine WL.neq? rfl rfl rfl (fun h28 => ?_) (fun h28 => ?_)
        ·
          refine WL.want rfl rfl rfl (WL.pickT rfl rfl rfl (WL.pickF rfl rfl rfl (WL.move rfl rfl (WL.pass rfl rfl rfl rfl (WL.pass rfl rfl rfl rfl (WL.pass rfl rfl rfl rfl (WL.pickT rfl rfl rfl (?_))))))))
          refine WL.nil (WX.then_normal (WC.cond_true rfl (WC.seq (WC.region (WL.assign rfl rfl (WL.assign rfl rfl (WL.nil (?_))))))))
          refine WX.then_normal (WC.ret (WX.then_ret (WX.block_ret (WX.then_ret (WX.block_ret (WX.then_ret (?_)))))))
          refine WX.ret2 (.inl rfl) Tryd.results67 rfl rfl ?_
          first
            | (refine ⟨_, rfl, ⟨a1, c1, ?_, ?_⟩, kk⟩ <;> (
                 have hnil : s.data.toList = [] := ba_nil.1 h11
                 rw [hnil] at hi
                 have he := decI_end hi
                 simp only [decL, decE, he])
               ·
                 rfl
               ·
                 exact hq)
            | (have he : dec 0 s0.data.toList = none := by
                 refine decI_bad hi ?_
                 first
                   | exact dec_none hc
                   | (rw [dec_some hc]
                      by_cases hn : out.length = 2000
                      ·
                        rw [if_pos hn]
                      ·
                        rw [if_neg hn]
                        first
                          | (exfalso; omega)
                          | (have h1 : ¬ x.toNat = 1 := by omega
                             have h2 : ¬ (x.toNat = 2 ∧ u.toNat ≤ 4000 ∧ u.toNat ≤ r.data.toList.length) := by omega
                             rw [if_neg h1, if_neg h2]))
               refine ⟨_, rfl, ⟨none, 0, ?_, ?_⟩, kk⟩ <;> simp only [decL, decE, he]
               ·
                 rfl
               ·
                 exact Row.nil _ _ _ _)
        ·
          refine WL.want rfl rfl rfl (WL.pickT rfl rfl rfl (WL.pickF rfl rfl rfl (WL.move rfl rfl (WL.want rfl rfl rfl (WL.move rfl rfl (WL.want rfl rfl rfl (WL.len Tryd.underlying76 rfl rfl (?_))))))))
          refine WL.want rfl rfl rfl (?_)
          refine WL.eql? rfl rfl rfl (fun h34 => ?_) (fun h34 => ?_)
          ·
            refine WL.pickF rfl rfl rfl (WL.nil (WX.then_normal (WC.cond_true rfl (WC.seq (WC.region (WL.assign rfl rfl (WL.assign rfl rfl (?_))))))))
            refine WL.nil (WX.then_normal (WC.ret (WX.then_ret (WX.block_ret (WX.then_ret (WX.block_ret (WX.then_ret (?_))))))))
            refine WX.ret2 (.inl rfl) Tryd.results67 rfl rfl ?_
            first
              | (refine ⟨_, rfl, ⟨a1, c1, ?_, ?_⟩, kk⟩ <;> (
                   have hnil : s.data.toList = [] := ba_nil.1 h11
                   rw [hnil] at hi
                   have he := decI_end hi
                   simp only [decL, decE, he])
                 ·
                   rfl
                 ·
                   exact hq)
              | (have he : dec 0 s0.data.toList = none := by
                   refine decI_bad hi ?_
                   first
                     | exact dec_none hc
                     | (rw [dec_some hc]
                        by_cases hn : out.length = 2000
                        ·
                          rw [if_pos hn]
                        ·
                          rw [if_neg hn]
                          first
                            | (exfalso; omega)
                            | (have h1 : ¬ x.toNat = 1 := by omega
                               have h2 : ¬ (x.toNat = 2 ∧ u.toNat ≤ 4000 ∧ u.toNat ≤ r.data.toList.length) := by omega
                               rw [if_neg h1, if_neg h2]))
                 refine ⟨_, rfl, ⟨none, 0, ?_, ?_⟩, kk⟩ <;> simp only [decL, decE, he]
                 ·
                   rfl
                 ·
                   exact Row.nil _ _ _ _)
          ·
            refine WL.pickF rfl rfl rfl (WL.nil (WX.then_normal (WC.cond_false rfl (WC.skip (WX.then_normal (WC.seq (WC.seq (?_))))))))
            refine WC.region (WL.move rfl rfl (?_))
            refine WL.eql? rfl rfl rfl (fun h37 => ?_) (fun h37 => ?_)
            ·
              refine WL.nil (WX.then_normal (WC.cond_true rfl (WC.seq (WC.region (WL.move rfl rfl (WL.num rfl rfl (n_quo64 _ _ _ 2 (by decide)) rfl (?_)))))))
              refine WL.c_u64_i64s (n := u.toNat / 2) Tryd.underlying44 Tryd.underlying3 rfl ⟨e2, by have := u.toNat_lt; omega⟩ rfl ?_
              refine WL.assign rfl rfl (WL.nil (WX.then_normal (WC.seq (WC.seq (WC.region (WL.move rfl rfl (WL.num rfl rfl (n_rem64 _ _ _ 2 (by decide)) rfl (?_))))))))
              refine WL.eql? rfl rfl rfl (fun h43 => ?_) (fun h43 => ?_)
              ·
                refine WL.nil (WX.then_normal (WC.cond_true rfl (WC.region (WL.move rfl rfl (WL.neg64 rfl (by omega) rfl (WL.sub64 rfl rfl (by omega) rfl (WL.assign rfl rfl (?_))))))))
                refine WL.nil (WX.then_normal (WC.seq (WC.region (WL.move rfl rfl (WL.move rfl rfl (WL.bld rfl (bld_75_0_1 _ _) rfl (?_)))))))
                rw [e3] at h43
                refine WL.build (e := eit) [⟨1, _, ⟨#[]⟩⟩] Tryd.underlying76 Tryd.sizeOf75 Tryd.zeroValue75 rfl rfl rfl (by simp [Value.cells] <;> rfl) (by decide) rfl ?_
                intro a_hn w_hn hn l_hn z_hn k_hn
                have zs_k_hn := k_hn.size
                replace kk := kk.pure k_hn
                replace hq := hq.pure k_hn
                refine WL.append (e := eit) info_75 rfl Tryd.underlying76 rfl rfl hq (hn.rsl.src Tryd.underlying76) (by (try simp only [List.length_append, List.length_cons, List.length_nil] at *); omega) (by intro b hb; first | (apply hS; omega) | ((try dsimp only); omega)) rfl ?_
                intro a_hq2 c_hq2 w_hq2 hq2 g_hq2 n_hq2
                have z_hq2 := g_hq2.chg.size
                have zs_g_hq2_chg := g_hq2.chg.size
                replace kk := kk.chg g_hq2.chg (by intros; exfalso; (try dsimp only at *); omega)
                refine WL.assign rfl rfl (WL.nil (WX.then_normal (WC.seq (WC.region (WL.move rfl rfl (WL.assign rfl rfl (WL.nil (?_))))))))
                refine WX.then_normal (WC.exit (WX.then_exit (WX.block_here (?_))))
                first
                  | (have hn2 : ¬ out.length = 2000 := by omega
                     have h1 : x.toNat = 1 := by omega
                     first
                       | (have eu : unz u.toNat = -((u.toNat / 2 : Nat) : Int) - 1 := if_pos (by omega)
                          refine WX.loop_next ((out ++ [⟨1, -((u.toNat / 2 : Nat) : Int) - 1, ⟨#[]⟩⟩], a_hq2, c_hq2), r) ⟨rfl, rfl, trivial⟩ ⟨by dsimp only; simp; omega, by dsimp only; omega, ?_, hq2, kk⟩ (by show r.size < s.size; omega)
                          refine decI_step hi ?_
                          rw [dec_some hc, if_neg hn2, if_pos h1, eu]
                          done)
                       | (have eu : unz u.toNat = ((u.toNat / 2 : Nat) : Int) := if_neg (by omega)
                          refine WX.loop_next ((out ++ [⟨1, ((u.toNat / 2 : Nat) : Int), ⟨#[]⟩⟩], a_hq2, c_hq2), r) ⟨rfl, rfl, trivial⟩ ⟨by dsimp only; simp; omega, by dsimp only; omega, ?_, hq2, kk⟩ (by show r.size < s.size; omega)
                          refine decI_step hi ?_
                          rw [dec_some hc, if_neg hn2, if_pos h1, eu]))
                  | (have hn2 : ¬ out.length = 2000 := by omega
                     have h1 : ¬ x.toNat = 1 := by omega
                     have h2 : x.toNat = 2 ∧ u.toNat ≤ 4000 ∧ u.toNat ≤ r.data.toList.length := by omega
                     refine WX.loop_next ((out ++ [⟨2, 0, r.extract 0 u.toNat⟩], a_hq2, c_hq2), r.extract u.toNat r.size) ⟨rfl, rfl, trivial⟩ ⟨by dsimp only; simp; omega, by dsimp only; simp; omega, ?_, hq2, kk⟩ (by show (r.extract u.toNat r.size).size < s.size; simp; omega)
                     rw [ba_drop, ba_take]
                     refine decI_step hi ?_
                     rw [dec_some hc, if_neg hn2, if_neg h1, if_pos h2])
              ·
                refine WL.nil (WX.then_normal (WC.cond_false rfl (WC.skip (WX.then_normal (WC.seq (WC.region (WL.move rfl rfl (?_))))))))
                refine WL.move rfl rfl (WL.bld rfl (bld_75_0_1 _ _) rfl (?_))
                rw [e3] at h43
                refine WL.build (e := eit) [⟨1, _, ⟨#[]⟩⟩] Tryd.underlying76 Tryd.sizeOf75 Tryd.zeroValue75 rfl rfl rfl (by simp [Value.cells] <;> rfl) (by decide) rfl ?_
                intro a_hn w_hn hn l_hn z_hn k_hn
                have zs_k_hn := k_hn.size
                replace kk := kk.pure k_hn
                replace hq := hq.pure k_hn
                refine WL.append (e := eit) info_75 rfl Tryd.underlying76 rfl rfl hq (hn.rsl.src Tryd.underlying76) (by (try simp only [List.length_append, List.length_cons, List.length_nil] at *); omega) (by intro b hb; first | (apply hS; omega) | ((try dsimp only); omega)) rfl ?_
                intro a_hq2 c_hq2 w_hq2 hq2 g_hq2 n_hq2
                have z_hq2 := g_hq2.chg.size
                have zs_g_hq2_chg := g_hq2.chg.size
                replace kk := kk.chg g_hq2.chg (by intros; exfalso; (try dsimp only at *); omega)
                refine WL.assign rfl rfl (WL.nil (WX.then_normal (WC.seq (WC.region (WL.move rfl rfl (WL.assign rfl rfl (WL.nil (?_))))))))
                refine WX.then_normal (WC.exit (WX.then_exit (WX.block_here (?_))))
                first
                  | (have hn2 : ¬ out.length = 2000 := by omega
                     have h1 : x.toNat = 1 := by omega
                     first
                       | (have eu : unz u.toNat = -((u.toNat / 2 : Nat) : Int) - 1 := if_pos (by omega)
                          refine WX.loop_next ((out ++ [⟨1, -((u.toNat / 2 : Nat) : Int) - 1, ⟨#[]⟩⟩], a_hq2, c_hq2), r) ⟨rfl, rfl, trivial⟩ ⟨by dsimp only; simp; omega, by dsimp only; omega, ?_, hq2, kk⟩ (by show r.size < s.size; omega)
                          refine decI_step hi ?_
                          rw [dec_some hc, if_neg hn2, if_pos h1, eu]
                          done)
                       | (have eu : unz u.toNat = ((u.toNat / 2 : Nat) : Int) := if_neg (by omega)
                          refine WX.loop_next ((out ++ [⟨1, ((u.toNat / 2 : Nat) : Int), ⟨#[]⟩⟩], a_hq2, c_hq2), r) ⟨rfl, rfl, trivial⟩ ⟨by dsimp only; simp; omega, by dsimp only; omega, ?_, hq2, kk⟩ (by show r.size < s.size; omega)
                          refine decI_step hi ?_
                          rw [dec_some hc, if_neg hn2, if_pos h1, eu]))
                  | (have hn2 : ¬ out.length = 2000 := by omega
                     have h1 : ¬ x.toNat = 1 := by omega
                     have h2 : x.toNat = 2 ∧ u.toNat ≤ 4000 ∧ u.toNat ≤ r.data.toList.length := by omega
                     refine WX.loop_next ((out ++ [⟨2, 0, r.extract 0 u.toNat⟩], a_hq2, c_hq2), r.extract u.toNat r.size) ⟨rfl, rfl, trivial⟩ ⟨by dsimp only; simp; omega, by dsimp only; simp; omega, ?_, hq2, kk⟩ (by show (r.extract u.toNat r.size).size < s.size; simp; omega)
                     rw [ba_drop, ba_take]
                     refine decI_step hi ?_
                     rw [dec_some hc, if_neg hn2, if_neg h1, if_pos h2])
            ·
              refine WL.nil (WX.then_normal (WC.cond_false rfl (WC.skip (WX.then_normal (WC.seq (WC.seq (WC.region (?_))))))))
              refine WL.move rfl rfl (?_)
              refine WL.gtr? rfl rfl rfl (fun h54 => ?_) (fun h54 => ?_)
              ·
                refine WL.move rfl rfl (WL.pass rfl rfl rfl rfl (WL.pass rfl rfl rfl rfl (WL.pass rfl rfl rfl rfl (WL.pass rfl rfl rfl rfl (WL.pass rfl rfl rfl rfl (WL.pickT rfl rfl rfl (WL.nil (?_))))))))
                refine WX.then_normal (WC.cond_true rfl (WC.seq (WC.region (WL.assign rfl rfl (WL.assign rfl rfl (WL.nil (WX.then_normal (?_))))))))
                refine WC.ret (WX.then_ret (WX.block_ret (WX.then_ret (WX.block_ret (WX.then_ret (?_))))))
                refine WX.ret2 (.inl rfl) Tryd.results67 rfl rfl ?_
                first
                  | (refine ⟨_, rfl, ⟨a1, c1, ?_, ?_⟩, kk⟩ <;> (
                       have hnil : s.data.toList = [] := ba_nil.1 h11
                       rw [hnil] at hi
                       have he := decI_end hi
                       simp only [decL, decE, he])
                     ·
                       rfl
                     ·
                       exact hq)
                  | (have he : dec 0 s0.data.toList = none := by
                       refine decI_bad hi ?_
                       first
                         | exact dec_none hc
                         | (rw [dec_some hc]
                            by_cases hn : out.length = 2000
                            ·
                              rw [if_pos hn]
                            ·
                              rw [if_neg hn]
                              first
                                | (exfalso; omega)
                                | (have h1 : ¬ x.toNat = 1 := by omega
                                   have h2 : ¬ (x.toNat = 2 ∧ u.toNat ≤ 4000 ∧ u.toNat ≤ r.data.toList.length) := by omega
                                   rw [if_neg h1, if_neg h2]))
                     refine ⟨_, rfl, ⟨none, 0, ?_, ?_⟩, kk⟩ <;> simp only [decL, decE, he]
                     ·
                       rfl
                     ·
                       exact Row.nil _ _ _ _)
              ·
                refine WL.move rfl rfl (WL.want rfl rfl rfl (WL.move rfl rfl (WL.want rfl rfl rfl (WL.move rfl rfl (WL.want rfl rfl rfl (WL.lens Tryd.underlying9 rfl rfl (WL.want rfl rfl rfl (?_))))))))
                refine WL.c_i64_u64 Tryd.underlying3 Tryd.underlying44 rfl rfl (WL.want rfl rfl rfl (?_))
                refine WL.gtr? rfl rfl rfl (fun h60 => ?_) (fun h60 => ?_)
                ·
                  refine WL.pickF rfl rfl rfl (WL.nil (WX.then_normal (WC.cond_true rfl (WC.seq (WC.region (WL.assign rfl rfl (WL.assign rfl rfl (?_))))))))
                  refine WL.nil (WX.then_normal (WC.ret (WX.then_ret (WX.block_ret (WX.then_ret (WX.block_ret (WX.then_ret (?_))))))))
                  refine WX.ret2 (.inl rfl) Tryd.results67 rfl rfl ?_
                  first
                    | (refine ⟨_, rfl, ⟨a1, c1, ?_, ?_⟩, kk⟩ <;> (
                         have hnil : s.data.toList = [] := ba_nil.1 h11
                         rw [hnil] at hi
                         have he := decI_end hi
                         simp only [decL, decE, he])
                       ·
                         rfl
                       ·
                         exact hq)
                    | (have he : dec 0 s0.data.toList = none := by
                         refine decI_bad hi ?_
                         first
                           | exact dec_none hc
                           | (rw [dec_some hc]
                              by_cases hn : out.length = 2000
                              ·
                                rw [if_pos hn]
                              ·
                                rw [if_neg hn]
                                first
                                  | (exfalso; omega)
                                  | (have h1 : ¬ x.toNat = 1 := by omega
                                     have h2 : ¬ (x.toNat = 2 ∧ u.toNat ≤ 4000 ∧ u.toNat ≤ r.data.toList.length) := by omega
                                     rw [if_neg h1, if_neg h2]))
                       refine ⟨_, rfl, ⟨none, 0, ?_, ?_⟩, kk⟩ <;> simp only [decL, decE, he]
                       ·
                         rfl
                       ·
                         exact Row.nil _ _ _ _)
                ·
                  refine WL.pickF rfl rfl rfl (WL.nil (WX.then_normal (WC.cond_false rfl (WC.skip (WX.then_normal (WC.seq (WC.region (?_))))))))
                  refine WL.move rfl rfl (WL.move rfl rfl (WL.move rfl rfl (?_)))
                  refine WL.sslice (l := 0) (h := u.toNat) (k := .i64) Tryd.underlying9 rfl (.inr ⟨rfl, rfl⟩) (.inl rfl) (by constructor <;> omega) rfl ?_
                  refine WL.bld rfl (bld_75_0_2 _ _) rfl (?_)
                  refine WL.build (e := eit) [⟨2, 0, r.extract 0 u.toNat⟩] Tryd.underlying76 Tryd.sizeOf75 Tryd.zeroValue75 rfl rfl rfl (by simp [Value.cells] <;> rfl) (by decide) rfl ?_
                  intro a_hn w_hn hn l_hn z_hn k_hn
                  have zs_k_hn := k_hn.size
                  replace kk := kk.pure k_hn
                  replace hq := hq.pure k_hn
                  refine WL.append (e := eit) info_75 rfl Tryd.underlying76 rfl rfl hq (hn.rsl.src Tryd.underlying76) (by (try simp only [List.length_append, List.length_cons, List.length_nil] at *); omega) (by intro b hb; first | (apply hS; omega) | ((try dsimp only); omega)) rfl ?_
                  intro a_hq2 c_hq2 w_hq2 hq2 g_hq2 n_hq2
                  have z_hq2 := g_hq2.chg.size
                  have zs_g_hq2_chg := g_hq2.chg.size
                  replace kk := kk.chg g_hq2.chg (by intros; exfalso; (try dsimp only at *); omega)
                  refine WL.assign rfl rfl (WL.nil (WX.then_normal (WC.region (WL.move rfl rfl (WL.move rfl rfl (?_))))))
                  refine WL.sslice (l := u.toNat) (h := r.size) (j := .i64) Tryd.underlying9 rfl (.inl rfl) (.inr ⟨rfl, rfl⟩) (by constructor <;> omega) rfl ?_
                  refine WL.assign rfl rfl (WL.nil (WX.block_normal (?_)))
                  first
                    | (have hn2 : ¬ out.length = 2000 := by omega
                       have h1 : x.toNat = 1 := by omega
                       first
                         | (have eu : unz u.toNat = -((u.toNat / 2 : Nat) : Int) - 1 := if_pos (by omega)
                            refine WX.loop_next ((out ++ [⟨1, -((u.toNat / 2 : Nat) : Int) - 1, ⟨#[]⟩⟩], a_hq2, c_hq2), r) ⟨rfl, rfl, trivial⟩ ⟨by dsimp only; simp; omega, by dsimp only; omega, ?_, hq2, kk⟩ (by show r.size < s.size; omega)
                            refine decI_step hi ?_
                            rw [dec_some hc, if_neg hn2, if_pos h1, eu]
                            done)
                         | (have eu : unz u.toNat = ((u.toNat / 2 : Nat) : Int) := if_neg (by omega)
                            refine WX.loop_next ((out ++ [⟨1, ((u.toNat / 2 : Nat) : Int), ⟨#[]⟩⟩], a_hq2, c_hq2), r) ⟨rfl, rfl, trivial⟩ ⟨by dsimp only; simp; omega, by dsimp only; omega, ?_, hq2, kk⟩ (by show r.size < s.size; omega)
                            refine decI_step hi ?_
                            rw [dec_some hc, if_neg hn2, if_pos h1, eu]))
                    | (have hn2 : ¬ out.length = 2000 := by omega
                       have h1 : ¬ x.toNat = 1 := by omega
                       have h2 : x.toNat = 2 ∧ u.toNat ≤ 4000 ∧ u.toNat ≤ r.data.toList.length := by omega
                       refine WX.loop_next ((out ++ [⟨2, 0, r.extract 0 u.toNat⟩], a_hq2, c_hq2), r.extract u.toNat r.size) ⟨rfl, rfl, trivial⟩ ⟨by dsimp only; simp; omega, by dsimp only; simp; omega, ?_, hq2, kk⟩ (by show (r.extract u.toNat r.size).size < s.size; simp; omega)
                       rw [ba_drop, ba_take]
                       refine decI_step hi ?_
                       rw [dec_some hc, if_neg hn2, if_neg h1, if_pos h2])
      ·
        refine WL.want rfl rfl rfl (WL.move rfl rfl (WL.pass rfl rfl rfl rfl (WL.pass rfl rfl rfl rfl (WL.want rfl rfl rfl (WL.pickF rfl rfl rfl (WL.pickF rfl rfl rfl (WL.move rfl rfl (?_))))))))
        refine WL.want rfl rfl rfl (WL.move rfl rfl (WL.want rfl rfl rfl (WL.len Tryd.underlying76 rfl rfl (WL.want rfl rfl rfl (?_)))))
        refine WL.eql? rfl rfl rfl (fun h34 => ?_) (fun h34 => ?_)
        ·
          refine WL.pickF rfl rfl rfl (WL.nil (WX.then_normal (WC.cond_true rfl (WC.seq (WC.region (WL.assign rfl rfl (WL.assign rfl rfl (?_))))))))
          refine WL.nil (WX.then_normal (WC.ret (WX.then_ret (WX.block_ret (WX.then_ret (WX.block_ret (WX.then_ret (?_))))))))
          refine WX.ret2 (.inl rfl) Tryd.results67 rfl rfl ?_
          first
            | (refine ⟨_, rfl, ⟨a1, c1, ?_, ?_⟩, kk⟩ <;> (
                 have hnil : s.data.toList = [] := ba_nil.1 h11
                 rw [hnil] at hi
                 have he := decI_end hi
                 simp only [decL, decE, he])
               ·
                 rfl
               ·
                 exact hq)
            | (have he : dec 0 s0.data.toList = none := by
                 refine decI_bad hi ?_
                 first
                   | exact dec_none hc
                   | (rw [dec_some hc]
                      by_cases hn : out.length = 2000
                      ·
                        rw [if_pos hn]
                      ·
                        rw [if_neg hn]
                        first
                          | (exfalso; omega)
                          | (have h1 : ¬ x.toNat = 1 := by omega
                             have h2 : ¬ (x.toNat = 2 ∧ u.toNat ≤ 4000 ∧ u.toNat ≤ r.data.toList.length) := by omega
                             rw [if_neg h1, if_neg h2]))
               refine ⟨_, rfl, ⟨none, 0, ?_, ?_⟩, kk⟩ <;> simp only [decL, decE, he]
               ·
                 rfl
               ·
                 exact Row.nil _ _ _ _)
        ·
          refine WL.pickF rfl rfl rfl (WL.nil (WX.then_normal (WC.cond_false rfl (WC.skip (WX.then_normal (WC.seq (WC.seq (?_))))))))
          refine WC.region (WL.move rfl rfl (?_))
          refine WL.eql? rfl rfl rfl (fun h37 => ?_) (fun h37 => ?_)
          ·
            refine WL.nil (WX.then_normal (WC.cond_true rfl (WC.seq (WC.region (WL.move rfl rfl (WL.num rfl rfl (n_quo64 _ _ _ 2 (by decide)) rfl (?_)))))))
            refine WL.c_u64_i64s (n := u.toNat / 2) Tryd.underlying44 Tryd.underlying3 rfl ⟨e2, by have := u.toNat_lt; omega⟩ rfl ?_
            refine WL.assign rfl rfl (WL.nil (WX.then_normal (WC.seq (WC.seq (WC.region (WL.move rfl rfl (WL.num rfl rfl (n_rem64 _ _ _ 2 (by decide)) rfl (?_))))))))
            refine WL.eql? rfl rfl rfl (fun h43 => ?_) (fun h43 => ?_)
            ·
              refine WL.nil (WX.then_normal (WC.cond_true rfl (WC.region (WL.move rfl rfl (WL.neg64 rfl (by omega) rfl (WL.sub64 rfl rfl (by omega) rfl (WL.assign rfl rfl (?_))))))))
              refine WL.nil (WX.then_normal (WC.seq (WC.region (WL.move rfl rfl (WL.move rfl rfl (WL.bld rfl (bld_75_0_1 _ _) rfl (?_)))))))
              rw [e3] at h43
              refine WL.build (e := eit) [⟨1, _, ⟨#[]⟩⟩] Tryd.underlying76 Tryd.sizeOf75 Tryd.zeroValue75 rfl rfl rfl (by simp [Value.cells] <;> rfl) (by decide) rfl ?_
              intro a_hn w_hn hn l_hn z_hn k_hn
              have zs_k_hn := k_hn.size
              replace kk := kk.pure k_hn
              replace hq := hq.pure k_hn
              refine WL.append (e := eit) info_75 rfl Tryd.underlying76 rfl rfl hq (hn.rsl.src Tryd.underlying76) (by (try simp only [List.length_append, List.length_cons, List.length_nil] at *); omega) (by intro b hb; first | (apply hS; omega) | ((try dsimp only); omega)) rfl ?_
              intro a_hq2 c_hq2 w_hq2 hq2 g_hq2 n_hq2
              have z_hq2 := g_hq2.chg.size
              have zs_g_hq2_chg := g_hq2.chg.size
              replace kk := kk.chg g_hq2.chg (by intros; exfalso; (try dsimp only at *); omega)
              refine WL.assign rfl rfl (WL.nil (WX.then_normal (WC.seq (WC.region (WL.move rfl rfl (WL.assign rfl rfl (WL.nil (?_))))))))
              refine WX.then_normal (WC.exit (WX.then_exit (WX.block_here (?_))))
              first
                | (have hn2 : ¬ out.length = 2000 := by omega
                   have h1 : x.toNat = 1 := by omega
                   first
                     | (have eu : unz u.toNat = -((u.toNat / 2 : Nat) : Int) - 1 := if_pos (by omega)
                        refine WX.loop_next ((out ++ [⟨1, -((u.toNat / 2 : Nat) : Int) - 1, ⟨#[]⟩⟩], a_hq2, c_hq2), r) ⟨rfl, rfl, trivial⟩ ⟨by dsimp only; simp; omega, by dsimp only; omega, ?_, hq2, kk⟩ (by show r.size < s.size; omega)
                        refine decI_step hi ?_
                        rw [dec_some hc, if_neg hn2, if_pos h1, eu]
                        done)
                     | (have eu : unz u.toNat = ((u.toNat / 2 : Nat) : Int) := if_neg (by omega)
                        refine WX.loop_next ((out ++ [⟨1, ((u.toNat / 2 : Nat) : Int), ⟨#[]⟩⟩], a_hq2, c_hq2), r) ⟨rfl, rfl, trivial⟩ ⟨by dsimp only; simp; omega, by dsimp only; omega, ?_, hq2, kk⟩ (by show r.size < s.size; omega)
                        refine decI_step hi ?_
                        rw [dec_some hc, if_neg hn2, if_pos h1, eu]))
                | (have hn2 : ¬ out.length = 2000 := by omega
                   have h1 : ¬ x.toNat = 1 := by omega
                   have h2 : x.toNat = 2 ∧ u.toNat ≤ 4000 ∧ u.toNat ≤ r.data.toList.length := by omega
                   refine WX.loop_next ((out ++ [⟨2, 0, r.extract 0 u.toNat⟩], a_hq2, c_hq2), r.extract u.toNat r.size) ⟨rfl, rfl, trivial⟩ ⟨by dsimp only; simp; omega, by dsimp only; simp; omega, ?_, hq2, kk⟩ (by show (r.extract u.toNat r.size).size < s.size; simp; omega)
                   rw [ba_drop, ba_take]
                   refine decI_step hi ?_
                   rw [dec_some hc, if_neg hn2, if_neg h1, if_pos h2])
            ·
              refine WL.nil (WX.then_normal (WC.cond_false rfl (WC.skip (WX.then_normal (WC.seq (WC.region (WL.move rfl rfl (?_))))))))
              refine WL.move rfl rfl (WL.bld rfl (bld_75_0_1 _ _) rfl (?_))
              rw [e3] at h43
              refine WL.build (e := eit) [⟨1, _, ⟨#[]⟩⟩] Tryd.underlying76 Tryd.sizeOf75 Tryd.zeroValue75 rfl rfl rfl (by simp [Value.cells] <;> rfl) (by decide) rfl ?_
              intro a_hn w_hn hn l_hn z_hn k_hn
              have zs_k_hn := k_hn.size
              replace kk := kk.pure k_hn
              replace hq := hq.pure k_hn
              refine WL.append (e := eit) info_75 rfl Tryd.underlying76 rfl rfl hq (hn.rsl.src Tryd.underlying76) (by (try simp only [List.length_append, List.length_cons, List.length_nil] at *); omega) (by intro b hb; first | (apply hS; omega) | ((try dsimp only); omega)) rfl ?_
              intro a_hq2 c_hq2 w_hq2 hq2 g_hq2 n_hq2
              have z_hq2 := g_hq2.chg.size
              have zs_g_hq2_chg := g_hq2.chg.size
              replace kk := kk.chg g_hq2.chg (by intros; exfalso; (try dsimp only at *); omega)
              refine WL.assign rfl rfl (WL.nil (WX.then_normal (WC.seq (WC.region (WL.move rfl rfl (WL.assign rfl rfl (WL.nil (?_))))))))
              refine WX.then_normal (WC.exit (WX.then_exit (WX.block_here (?_))))
              first
                | (have hn2 : ¬ out.length = 2000 := by omega
                   have h1 : x.toNat = 1 := by omega
                   first
                     | (have eu : unz u.toNat = -((u.toNat / 2 : Nat) : Int) - 1 := if_pos (by omega)
                        refine WX.loop_next ((out ++ [⟨1, -((u.toNat / 2 : Nat) : Int) - 1, ⟨#[]⟩⟩], a_hq2, c_hq2), r) ⟨rfl, rfl, trivial⟩ ⟨by dsimp only; simp; omega, by dsimp only; omega, ?_, hq2, kk⟩ (by show r.size < s.size; omega)
                        refine decI_step hi ?_
                        rw [dec_some hc, if_neg hn2, if_pos h1, eu]
                        done)
                     | (have eu : unz u.toNat = ((u.toNat / 2 : Nat) : Int) := if_neg (by omega)
                        refine WX.loop_next ((out ++ [⟨1, ((u.toNat / 2 : Nat) : Int), ⟨#[]⟩⟩], a_hq2, c_hq2), r) ⟨rfl, rfl, trivial⟩ ⟨by dsimp only; simp; omega, by dsimp only; omega, ?_, hq2, kk⟩ (by show r.size < s.size; omega)
                        refine decI_step hi ?_
                        rw [dec_some hc, if_neg hn2, if_pos h1, eu]))
                | (have hn2 : ¬ out.length = 2000 := by omega
                   have h1 : ¬ x.toNat = 1 := by omega
                   have h2 : x.toNat = 2 ∧ u.toNat ≤ 4000 ∧ u.toNat ≤ r.data.toList.length := by omega
                   refine WX.loop_next ((out ++ [⟨2, 0, r.extract 0 u.toNat⟩], a_hq2, c_hq2), r.extract u.toNat r.size) ⟨rfl, rfl, trivial⟩ ⟨by dsimp only; simp; omega, by dsimp only; simp; omega, ?_, hq2, kk⟩ (by show (r.extract u.toNat r.size).size < s.size; simp; omega)
                   rw [ba_drop, ba_take]
                   refine decI_step hi ?_
                   rw [dec_some hc, if_neg hn2, if_neg h1, if_pos h2])
          ·
            refine WL.nil (WX.then_normal (WC.cond_false rfl (WC.skip (WX.then_normal (WC.seq (WC.seq (WC.region (?_))))))))
            refine WL.move rfl rfl (?_)
            refine WL.gtr? rfl rfl rfl (fun h54 => ?_) (fun h54 => ?_)
            ·
              refine WL.move rfl rfl (WL.pass rfl rfl rfl rfl (WL.pass rfl rfl rfl rfl (WL.pass rfl rfl rfl rfl (WL.pass rfl rfl rfl rfl (WL.pass rfl rfl rfl rfl (WL.pickT rfl rfl rfl (WL.nil (?_))))))))
              refine WX.then_normal (WC.cond_true rfl (WC.seq (WC.region (WL.assign rfl rfl (WL.assign rfl rfl (WL.nil (WX.then_normal (?_))))))))
              refine WC.ret (WX.then_ret (WX.block_ret (WX.then_ret (WX.block_ret (WX.then_ret (?_))))))
              refine WX.ret2 (.inl rfl) Tryd.results67 rfl rfl ?_
              first
                | (refine ⟨_, rfl, ⟨a1, c1, ?_, ?_⟩, kk⟩ <;> (
                     have hnil : s.data.toList = [] := ba_nil.1 h11
                     rw [hnil] at hi
                     have he := decI_end hi
                     simp only [decL, decE, he])
                   ·
                     rfl
                   ·
                     exact hq)
                | (have he : dec 0 s0.data.toList = none := by
                     refine decI_bad hi ?_
                     first
                       | exact dec_none hc
                       | (rw [dec_some hc]
                          by_cases hn : out.length = 2000
                          ·
                            rw [if_pos hn]
                          ·
                            rw [if_neg hn]
                            first
                              | (exfalso; omega)
                              | (have h1 : ¬ x.toNat = 1 := by omega
                                 have h2 : ¬ (x.toNat = 2 ∧ u.toNat ≤ 4000 ∧ u.toNat ≤ r.data.toList.length) := by omega
                                 rw [if_neg h1, if_neg h2]))
                   refine ⟨_, rfl, ⟨none, 0, ?_, ?_⟩, kk⟩ <;> simp only [decL, decE, he]
                   ·
                     rfl
                   ·
                     exact Row.nil _ _ _ _)
            ·
              refine WL.move rfl rfl (WL.want rfl rfl rfl (WL.move rfl rfl (WL.want rfl rfl rfl (WL.move rfl rfl (WL.want rfl rfl rfl (WL.lens Tryd.underlying9 rfl rfl (WL.want rfl rfl rfl (?_))))))))
              refine WL.c_i64_u64 Tryd.underlying3 Tryd.underlying44 rfl rfl (WL.want rfl rfl rfl (?_))
              refine WL.gtr? rfl rfl rfl (fun h60 => ?_) (fun h60 => ?_)
              ·
                refine WL.pickF rfl rfl rfl (WL.nil (WX.then_normal (WC.cond_true rfl (WC.seq (WC.region (WL.assign rfl rfl (WL.assign rfl rfl (?_))))))))
                refine WL.nil (WX.then_normal (WC.ret (WX.then_ret (WX.block_ret (WX.then_ret (WX.block_ret (WX.then_ret (?_))))))))
                refine WX.ret2 (.inl rfl) Tryd.results67 rfl rfl ?_
                first
                  | (refine ⟨_, rfl, ⟨a1, c1, ?_, ?_⟩, kk⟩ <;> (
                       have hnil : s.data.toList = [] := ba_nil.1 h11
                       rw [hnil] at hi
                       have he := decI_end hi
                       simp only [decL, decE, he])
                     ·
                       rfl
                     ·
                       exact hq)
                  | (have he : dec 0 s0.data.toList = none := by
                       refine decI_bad hi ?_
                       first
                         | exact dec_none hc
                         | (rw [dec_some hc]
                            by_cases hn : out.length = 2000
                            ·
                              rw [if_pos hn]
                            ·
                              rw [if_neg hn]
                              first
                                | (exfalso; omega)
                                | (have h1 : ¬ x.toNat = 1 := by omega
                                   have h2 : ¬ (x.toNat = 2 ∧ u.toNat ≤ 4000 ∧ u.toNat ≤ r.data.toList.length) := by omega
                                   rw [if_neg h1, if_neg h2]))
                     refine ⟨_, rfl, ⟨none, 0, ?_, ?_⟩, kk⟩ <;> simp only [decL, decE, he]
                     ·
                       rfl
                     ·
                       exact Row.nil _ _ _ _)
              ·
                refine WL.pickF rfl rfl rfl (WL.nil (WX.then_normal (WC.cond_false rfl (WC.skip (WX.then_normal (WC.seq (WC.region (?_))))))))
                refine WL.move rfl rfl (WL.move rfl rfl (WL.move rfl rfl (?_)))
                refine WL.sslice (l := 0) (h := u.toNat) (k := .i64) Tryd.underlying9 rfl (.inr ⟨rfl, rfl⟩) (.inl rfl) (by constructor <;> omega) rfl ?_
                refine WL.bld rfl (bld_75_0_2 _ _) rfl (?_)
                refine WL.build (e := eit) [⟨2, 0, r.extract 0 u.toNat⟩] Tryd.underlying76 Tryd.sizeOf75 Tryd.zeroValue75 rfl rfl rfl (by simp [Value.cells] <;> rfl) (by decide) rfl ?_
                intro a_hn w_hn hn l_hn z_hn k_hn
                have zs_k_hn := k_hn.size
                replace kk := kk.pure k_hn
                replace hq := hq.pure k_hn
                refine WL.append (e := eit) info_75 rfl Tryd.underlying76 rfl rfl hq (hn.rsl.src Tryd.underlying76) (by (try simp only [List.length_append, List.length_cons, List.length_nil] at *); omega) (by intro b hb; first | (apply hS; omega) | ((try dsimp only); omega)) rfl ?_
                intro a_hq2 c_hq2 w_hq2 hq2 g_hq2 n_hq2
                have z_hq2 := g_hq2.chg.size
                have zs_g_hq2_chg := g_hq2.chg.size
                replace kk := kk.chg g_hq2.chg (by intros; exfalso; (try dsimp only at *); omega)
                refine WL.assign rfl rfl (WL.nil (WX.then_normal (WC.region (WL.move rfl rfl (WL.move rfl rfl (?_))))))
                refine WL.sslice (l := u.toNat) (h := r.size) (j := .i64) Tryd.underlying9 rfl (.inl rfl) (.inr ⟨rfl, rfl⟩) (by constructor <;> omega) rfl ?_
                refine WL.assign rfl rfl (WL.nil (WX.block_normal (?_)))
                first
                  | (have hn2 : ¬ out.length = 2000 := by omega
                     have h1 : x.toNat = 1 := by omega
                     first
                       | (have eu : unz u.toNat = -((u.toNat / 2 : Nat) : Int) - 1 := if_pos (by omega)
                          refine WX.loop_next ((out ++ [⟨1, -((u.toNat / 2 : Nat) : Int) - 1, ⟨#[]⟩⟩], a_hq2, c_hq2), r) ⟨rfl, rfl, trivial⟩ ⟨by dsimp only; simp; omega, by dsimp only; omega, ?_, hq2, kk⟩ (by show r.size < s.size; omega)
                          refine decI_step hi ?_
                          rw [dec_some hc, if_neg hn2, if_pos h1, eu]
                          done)
                       | (have eu : unz u.toNat = ((u.toNat / 2 : Nat) : Int) := if_neg (by omega)
                          refine WX.loop_next ((out ++ [⟨1, ((u.toNat / 2 : Nat) : Int), ⟨#[]⟩⟩], a_hq2, c_hq2), r) ⟨rfl, rfl, trivial⟩ ⟨by dsimp only; simp; omega, by dsimp only; omega, ?_, hq2, kk⟩ (by show r.size < s.size; omega)
                          refine decI_step hi ?_
                          rw [dec_some hc, if_neg hn2, if_pos h1, eu]))
                  | (have hn2 : ¬ out.length = 2000 := by omega
                     have h1 : ¬ x.toNat = 1 := by omega
                     have h2 : x.toNat = 2 ∧ u.toNat ≤ 4000 ∧ u.toNat ≤ r.data.toList.length := by omega
                     refine WX.loop_next ((out ++ [⟨2, 0, r.extract 0 u.toNat⟩], a_hq2, c_hq2), r.extract u.toNat r.size) ⟨rfl, rfl, trivial⟩ ⟨by dsimp only; simp; omega, by dsimp only; simp; omega, ?_, hq2, kk⟩ (by show (r.extract u.toNat r.size).size < s.size; simp; omega)
                     rw [ba_drop, ba_take]
                     refine decI_step hi ?_
                     rw [dec_some hc, if_neg hn2, if_neg h1, if_pos h2])
    ·
      have zs_k2 := k2.size
      replace kk := kk.pure k2
      replace hq := hq.pure k2
      refine WL.move rfl rfl (WL.extract rfl rfl rfl (WL.extract rfl rfl rfl (WL.extract rfl rfl rfl (WL.assign rfl rfl (WL.assign rfl rfl (WL.assign rfl rfl (WL.nil (?_))))))))
      refine WX.then_normal (WC.seq (WC.seq (WC.region (WL.move rfl rfl (WL.not rfl rfl (WL.move rfl rfl (WL.pass rfl rfl rfl rfl (?_))))))))
      refine WL.pass rfl rfl rfl rfl (WL.pass rfl rfl rfl rfl (WL.passU rfl rfl rfl (WL.passU rfl rfl rfl (WL.pass rfl rfl rfl rfl (WL.pickT rfl rfl rfl (WL.move rfl rfl (WL.pass rfl rfl rfl rfl (?_))))))))
      refine WL.pass rfl rfl rfl rfl (WL.pass rfl rfl rfl rfl (WL.pickT rfl rfl rfl (WL.nil (WX.then_normal (WC.cond_true rfl (WC.seq (WC.region (?_))))))))
      refine WL.assign rfl rfl (WL.assign rfl rfl (WL.nil (WX.then_normal (WC.ret (WX.then_ret (WX.block_ret (WX.then_ret (?_))))))))
      refine WX.block_ret (WX.then_ret (?_))
      refine WX.ret2 (.inl rfl) Tryd.results67 rfl rfl ?_
      first
        | (refine ⟨_, rfl, ⟨a1, c1, ?_, ?_⟩, kk⟩ <;> (
             have hnil : s.data.toList = [] := ba_nil.1 h11
             rw [hnil] at hi
             have he := decI_end hi
             simp only [decL, decE, he])
           ·
             rfl
           ·
             exact hq)
        | (have he : dec 0 s0.data.toList = none := by
             refine decI_bad hi ?_
             first
               | exact dec_none hc
               | (rw [dec_some hc]
                  by_cases hn : out.length = 2000
                  ·
                    rw [if_pos hn]
                  ·
                    rw [if_neg hn]
                    first
                      | (exfalso; omega)
                      | (have h1 : ¬ x.toNat = 1 := by omega
                         have h2 : ¬ (x.toNat = 2 ∧ u.toNat ≤ 4000 ∧ u.toNat ≤ r.data.toList.length) := by omega
                         rw [if_neg h1, if_neg h2]))
           refine ⟨_, rfl, ⟨none, 0, ?_, ?_⟩, kk⟩ <;> simp only [decL, decE, he]
           ·
             rfl
           ·
             exact Row.nil _ _ _ _)
  ·
    refine WL.nil (WX.then_normal (WC.cond_false rfl (WC.exit (WX.then_exit (WX.then_exit (WX.block_here (WX.then_normal (?_))))))))
    refine WC.seq (WC.region (WL.move rfl rfl (WL.assign rfl rfl (WL.assign rfl rfl (WL.nil (WX.then_normal (WC.ret (?_))))))))
    refine WX.ret2 (.inl rfl) Tryd.results67 rfl rfl ?_
    first
      | (refine ⟨_, rfl, ⟨a1, c1, ?_, ?_⟩, kk⟩ <;> (
           have hnil : s.data.toList = [] := ba_nil.1 h11
           rw [hnil] at hi
           have he := decI_end hi
           simp only [decL, decE, he])
         ·
           rfl
         ·
           exact hq)
      | (have he : dec 0 s0.data.toList = none := by
           refine decI_bad hi ?_
           first
             | exact dec_none hc
             | (rw [dec_some hc]
                by_cases hn : out.length = 2000
                ·
                  rw [if_pos hn]
                ·
                  rw [if_neg hn]
                  first
                    | (exfalso; omega)
                    | (have h1 : ¬ x.toNat = 1 := by omega
                       have h2 : ¬ (x.toNat = 2 ∧ u.toNat ≤ 4000 ∧ u.toNat ≤ r.data.toList.length) := by omega
                       rw [if_neg h1, if_neg h2]))
         refine ⟨_, rfl, ⟨none, 0, ?_, ?_⟩, kk⟩ <;> simp only [decL, decE, he]
         ·
           rfl
         ·
           exact Row.nil _ _ _ _)
end Go.Proofs.YtjeldcjchipdgaaDoor
namespace Go.Proofs.YtjeldcjchipdgaaDoor
open Go.RowKit Go.HL
set_option maxRecDepth 100000

/-! what is encoded is decoded, and the other way round -/
theorem ctd_cnt : ∀ (bs : List UInt8) (k : Nat) {c : Nat} {r : List UInt8}, ctd k bs = some (c, r) → bs = cnt c ++ r ∧ (0 < k → 0 < c)
  | [], k, c, r, h => by simp [ctd] at h
  | x :: bs, k, c, r, h => by
    have hx := x.toNat_lt
    unfold ctd at h
    split at h
    · cases h
    · rename_i hn
      split at h
      · rename_i hl
        injection h with h
        injection h with h1 h2
        subst h1; subst h2
        rw [cnt_small hl]
        refine ⟨by simp, by omega⟩
      · rename_i hl
        obtain ⟨⟨c', r'⟩, h1, h2⟩ := Option.map_eq_some_iff.1 h
        injection h2 with h3 h4
        subst h4
        obtain ⟨h5, h6⟩ := ctd_cnt bs (k + 1) h1
        have h7 := h6 (by omega)
        rw [cnt_big (by omega), show c / 128 = c' from by omega, show c % 128 + 128 = x.toNat from by omega]
        refine ⟨?_, by omega⟩
        rw [h5]
        simp
theorem cnt_ctd (c : Nat) : ∀ (k : Nat) (r : List UInt8), k ≤ 9 → c < 2 ^ (64 - 7 * k) → (0 < k → 0 < c) → ctd k (cnt c ++ r) = some (c, r) := by
  induction c using Nat.strongRecOn with
  | _ c ih =>
    intro k r hk hc h0
    by_cases hb : 128 ≤ c
    · have hk8 : k ≤ 8 := by
        have h : k = 9 ∨ k ≤ 8 := by omega
        rcases h with rfl | h
        · simp at hc; omega
        · exact h
      have hlt : c % 128 + 128 < 256 := by omega
      rw [cnt_big hb]
      simp only [List.cons_append, ctd]
      have e : (UInt8.ofNat (c % 128 + 128)).toNat = c % 128 + 128 := by simp; omega
      rw [e, if_neg (by omega), if_neg (by omega), ih (c / 128) (by omega) (k + 1) r (by omega) ?_ (by omega)]
      · simp only [Option.map_some, Option.some.injEq, Prod.mk.injEq, and_true]
        omega
      · rw [Nat.div_lt_iff_lt_mul (by decide)]
        have e2 : 2 ^ (64 - 7 * k) = 2 ^ (64 - 7 * (k + 1)) * 128 := by
          rw [show 64 - 7 * k = (64 - 7 * (k + 1)) + 7 from by omega, Nat.pow_add]
        rw [← e2]; exact hc
    · rw [cnt_small (by omega)]
      have e : (UInt8.ofNat c).toNat = c := by simp; omega
      have h9 : k = 9 → c ≤ 1 := by rintro rfl; simp at hc; omega
      simp only [List.cons_append, List.nil_append, ctd, e]
      rw [if_neg (by omega), if_pos (by omega)]
theorem zig_unz {c : Nat} : zig (unz c) = c := by
  unfold zig unz
  split <;> split <;> omega
theorem unz_zig (n : Int) : unz (zig n) = n := by
  unfold zig unz
  split <;> split <;> omega
theorem unz_range {c : Nat} (h : c < 18446744073709551616) : -9223372036854775808 ≤ unz c ∧ unz c ≤ 9223372036854775807 := by
  unfold unz
  split <;> omega
theorem zig_lt {n : Int} (h : -9223372036854775808 ≤ n ∧ n ≤ 9223372036854775807) : zig n < 18446744073709551616 := by
  unfold zig
  split <;> omega
def Good (i : Item) : Prop := longI i = false ∧ okI i = true ∧ RIt i
theorem encAll_cons (i : Item) (l : List Item) : encAll (i :: l) = enc1 i ++ encAll l := by simp [encAll]
theorem dec_spec (m : Nat) : ∀ (b : List UInt8), b.length ≤ m → ∀ (n : Nat) (l : List Item), n ≤ 2000 → dec n b = some l → n + l.length ≤ 2000 ∧ (∀ i ∈ l, Good i) ∧ encAll l = b := by
  induction m with
  | zero =>
    intro b hb n l hn h
    have : b = [] := List.eq_nil_of_length_eq_zero (by omega)
    subst this
    rw [dec_nil] at h
    injection h with h
    subst h
    exact ⟨by simpa using hn, by simp, rfl⟩
  | succ m ih =>
    intro b hb n l hn h
    cases b with
    | nil =>
      rw [dec_nil] at h
      injection h with h
      subst h
      exact ⟨by simpa using hn, by simp, rfl⟩
    | cons k r =>
      cases hc : ctd 0 r with
      | none => rw [dec_none hc] at h; cases h
      | some p =>
        obtain ⟨c, r'⟩ := p
        obtain ⟨h1, _⟩ := ctd_cnt r 0 hc
        obtain ⟨_, h2, h3⟩ := ctd_bound r 0 (by omega) hc
        simp at hb
        rw [dec_some hc] at h
        split at h
        · cases h
        · rename_i hn2
          split at h
          · rename_i hk
            obtain ⟨l', h4, rfl⟩ := Option.map_eq_some_iff.1 h
            obtain ⟨h5, h6, h7⟩ := ih r' (by omega) (n + 1) l' (by omega) h4
            have hg : Good ⟨1, unz c, ⟨#[]⟩⟩ := ⟨by simp [longI], by simp [okI], unz_range (by simpa using h2)⟩
            refine ⟨by simp; omega, ?_, ?_⟩
            · intro i hi
              rcases List.mem_cons.1 hi with rfl | hi
              · exact hg
              · exact h6 i hi
            · rw [encAll_cons, h7, ← renc1_eq hg.2.1 hg.2.2, renc1, if_pos rfl, zig_unz, h1]
              have : k = 1 := UInt8.toNat_inj.1 hk
              rw [this]
              rfl
          · rename_i hk
            split at h
            · rename_i hk2
              obtain ⟨l', h4, rfl⟩ := Option.map_eq_some_iff.1 h
              obtain ⟨h5, h6, h7⟩ := ih (r'.drop c) (by simp; omega) (n + 1) l' (by omega) h4
              have hsz : (ByteArray.mk (r'.take c).toArray).size = c := by
                show (r'.take c).toArray.size = c
                simp; omega
              have hg : Good ⟨2, 0, ⟨(r'.take c).toArray⟩⟩ := ⟨by simp only [longI, hsz, decide_eq_false_iff_not]; omega, by simp [okI], ⟨show (-9223372036854775808 : Int) ≤ 0 by decide, show (0 : Int) ≤ 9223372036854775807 by decide⟩⟩
              refine ⟨by simp; omega, ?_, ?_⟩
              · intro i hi
                rcases List.mem_cons.1 hi with rfl | hi
                · exact hg
                · exact h6 i hi
              · rw [encAll_cons, h7, ← renc1_eq hg.2.1 hg.2.2, renc1, if_neg (show ¬ ((2 : Int) = 1) by decide)]
                have e0 : k = 2 := UInt8.toNat_inj.1 hk2.1
                have e1 : (ByteArray.mk (r'.take c).toArray).data.toList = r'.take c := rfl
                show 2 :: (cnt (ByteArray.mk (r'.take c).toArray).size ++ (ByteArray.mk (r'.take c).toArray).data.toList) ++ r'.drop c = k :: r
                rw [hsz, e1, e0, h1]
                simp
            · cases h
theorem enc_dec : ∀ (l : List Item) (n : Nat), n + l.length ≤ 2000 → (∀ i ∈ l, Good i) → dec n (encAll l) = some l
  | [], n, _, _ => dec_nil n
  | i :: l, n, hn, hg => by
    obtain ⟨h1, h2, h3⟩ := hg i (by simp)
    have ih := enc_dec l (n + 1) (by simp at hn; omega) (fun j hj => hg j (by simp [hj]))
    simp at hn
    rw [encAll_cons, ← renc1_eq h2 h3, renc1]
    simp only [okI, decide_eq_true_eq] at h2
    split
    · rename_i hk
      have hs : i.s = ⟨#[]⟩ := by
        rcases h2 with h2 | h2
        · exact h2.2
        · omega
      rw [List.cons_append, dec_some (cnt_ctd (zig i.n) 0 (encAll l) (by omega) (zig_lt h3) (by omega)), if_neg (by omega), if_pos (show UInt8.toNat 1 = 1 from rfl), ih, unz_zig]
      obtain ⟨k, m, s⟩ := i
      simp only at hk hs
      subst hk; subst hs
      rfl
    · rename_i hk
      have hk2 : i.kind = 2 ∧ i.n = 0 := by omega
      have hsz : i.s.data.toList.length = i.s.size := by simp
      have h4 : i.s.size ≤ 4000 := by simp only [longI, decide_eq_false_iff_not] at h1; omega
      rw [List.cons_append, List.append_assoc, dec_some (cnt_ctd i.s.size 0 (i.s.data.toList ++ encAll l) (by omega) (by simp; omega) (by omega)), if_neg (by omega), if_neg (by decide), if_pos ⟨rfl, h4, by simp⟩]
      rw [List.drop_append_of_le_length (by omega), List.drop_eq_nil_of_le (by omega), List.nil_append, ih, List.take_append_of_le_length (by omega), List.take_of_length_le (by omega)]
      obtain ⟨k, m, s⟩ := i
      simp only at hk2
      obtain ⟨e1, e2⟩ := hk2
      subst e1; subst e2
      simp
end Go.Proofs.YtjeldcjchipdgaaDoor
namespace Go.Proofs.YtjeldcjchipdgaaDoor
open Go.RowKit Go.HL
set_option maxRecDepth 100000

/-! the sums' own words -/
structure V8 where
  a : UInt32
  b : UInt32
  c : UInt32
  d : UInt32
  e : UInt32
  f : UInt32
  g : UInt32
  h : UInt32
def rotr (x : UInt32) (n : Nat) : UInt32 := (x <<< UInt32.ofNat (32 - n)) ||| (x >>> UInt32.ofNat n)
def wordAt (b : List UInt8) (t : Nat) : UInt32 := (((b.getD (4 * t) 0).toUInt32 <<< UInt32.ofNat 24 ||| (b.getD (4 * t + 1) 0).toUInt32 <<< UInt32.ofNat 16) ||| (b.getD (4 * t + 2) 0).toUInt32 <<< UInt32.ofNat 8) ||| (b.getD (4 * t + 3) 0).toUInt32
def nextW (b : List UInt8) (ws : List UInt32) (t : Nat) : UInt32 :=
  if t < 16 then wordAt b t
  else ws.getD (t - 16) 0 + ((rotr (ws.getD (t - 15) 0) 7 ^^^ rotr (ws.getD (t - 15) 0) 18) ^^^ (ws.getD (t - 15) 0) >>> UInt32.ofNat 3) + ws.getD (t - 7) 0 + ((rotr (ws.getD (t - 2) 0) 17 ^^^ rotr (ws.getD (t - 2) 0) 19) ^^^ (ws.getD (t - 2) 0) >>> UInt32.ofNat 10)
def sch (b : List UInt8) : Nat → List UInt32
  | 0 => []
  | t + 1 => let ws := sch b t; ws ++ [nextW b ws t]
def K256 : List UInt32 := [
    0x428a2f98, 0x71374491, 0xb5c0fbcf, 0xe9b5dba5, 0x3956c25b, 0x59f111f1, 0x923f82a4, 0xab1c5ed5,
    0xd807aa98, 0x12835b01, 0x243185be, 0x550c7dc3, 0x72be5d74, 0x80deb1fe, 0x9bdc06a7, 0xc19bf174,
    0xe49b69c1, 0xefbe4786, 0x0fc19dc6, 0x240ca1cc, 0x2de92c6f, 0x4a7484aa, 0x5cb0a9dc, 0x76f988da,
    0x983e5152, 0xa831c66d, 0xb00327c8, 0xbf597fc7, 0xc6e00bf3, 0xd5a79147, 0x06ca6351, 0x14292967,
    0x27b70a85, 0x2e1b2138, 0x4d2c6dfc, 0x53380d13, 0x650a7354, 0x766a0abb, 0x81c2c92e, 0x92722c85,
    0xa2bfe8a1, 0xa81a664b, 0xc24b8b70, 0xc76c51a3, 0xd192e819, 0xd6990624, 0xf40e3585, 0x106aa070,
    0x19a4c116, 0x1e376c08, 0x2748774c, 0x34b0bcb5, 0x391c0cb3, 0x4ed8aa4a, 0x5b9cca4f, 0x682e6ff3,
    0x748f82ee, 0x78a5636f, 0x84c87814, 0x8cc70208, 0x90befffa, 0xa4506ceb, 0xbef9a3f7, 0xc67178f2]
def round1 (v : V8) (k w : UInt32) : V8 :=
  let t1 := v.h + ((rotr v.e 6 ^^^ rotr v.e 11) ^^^ rotr v.e 25) + ((v.e &&& v.f) ^^^ (~~~v.e &&& v.g)) + k + w
  let t2 := ((rotr v.a 2 ^^^ rotr v.a 13) ^^^ rotr v.a 22) + (((v.a &&& v.b) ^^^ (v.a &&& v.c)) ^^^ (v.b &&& v.c))
  ⟨t1 + t2, v.a, v.b, v.c, v.d + t1, v.e, v.f, v.g⟩
def roundsN (w : List UInt32) (v : V8) : Nat → V8
  | 0 => v
  | t + 1 => round1 (roundsN w v t) (K256.getD t 0) (w.getD t 0)
def mix (s : V8) (b : List UInt8) : V8 :=
  let v := roundsN (sch b 64) s 64
  ⟨s.a + v.a, s.b + v.b, s.c + v.c, s.d + v.d, s.e + v.e, s.f + v.f, s.g + v.g, s.h + v.h⟩
def st0 : V8 := ⟨0x6a09e667, 0xbb67ae85, 0x3c6ef372, 0xa54ff53a, 0x510e527f, 0x9b05688c, 0x1f83d9ab, 0x5be0cd19⟩
def be8 (n : UInt64) (i : Nat) : List UInt8 := (List.range i).map fun q => (n >>> UInt64.ofNat (56 - 8 * q)).toUInt8
def padded (b : List UInt8) : List UInt8 := b ++ [128] ++ List.replicate ((120 - (b.length + 1) % 64) % 64) 0 ++ be8 (UInt64.ofNat b.length <<< UInt64.ofNat 3) 8

/-! turning -/
theorem rot_cnt {n : Nat} (h : 1 ≤ n ∧ n ≤ 31) : (B64 (-(n : Int)) &&& 31).toNat = 32 - n ∧ (32 - (B64 (-(n : Int)) &&& 31)).toNat = n := by
  have : ∀ m : Fin 32, 1 ≤ m.1 → (B64 (-(m.1 : Int)) &&& 31).toNat = 32 - m.1 ∧ (32 - (B64 (-(m.1 : Int)) &&& 31)).toNat = m.1 := by decide +kernel
  exact this ⟨n, by omega⟩ h.1
theorem rotl_calls (x : UInt32) (n : Nat) (w : World) (h : 1 ≤ n ∧ n ≤ 31) : Calls Tryd.prog 117 [v32 x, vi (-(n : Int))].toArray w (Ret fun v w' => v = v32 (rotr x n) ∧ Chg Nob w w') := by
  have hw := Chg.refl Nob w
  have hc := rot_cnt h
  refine Calls.of_WC Tryd.func117 rfl Tryd.ntmps117 (by simp) ?_
  refine WC.seq (WC.region (WL.assign rfl rfl (WL.nil (WX.then_normal (WC.seq (WC.region (WL.move rfl rfl (?_))))))))
  refine WL.c_i64_u64 Tryd.underlying3 Tryd.underlying138 rfl rfl (WL.num rfl rfl (n_and64 _ _ _ 31) rfl (WL.assign rfl rfl (WL.nil (WX.then_normal (WC.seq (WC.region (WL.move rfl rfl (?_))))))))
  refine WL.move rfl rfl (?_)
  refine WL.shl32v (32 - n) rfl rfl ⟨by rw [hc.1], by omega⟩ rfl ?_
  refine WL.move rfl rfl (WL.move rfl rfl (WL.num rfl rfl (n_sub64 _ _ 32 _) rfl (?_)))
  refine WL.shr32v n rfl rfl ⟨by rw [hc.2], by omega⟩ rfl ?_
  refine WL.num rfl rfl (n_or32 _ _ _ _) rfl (WL.assign rfl rfl (WL.nil (WX.then_normal (WC.ret (?_)))))
  refine WX.ret1 (.inl rfl) Tryd.results117 rfl ?_
  exact ⟨_, rfl, rfl, hw⟩
theorem ror_calls (x : UInt32) (n : Nat) (w : World) (h : 1 ≤ n ∧ n ≤ 31) : Calls Tryd.prog 114 [v32 x, vi (n : Int)].toArray w (Ret fun v w' => v = v32 (rotr x n) ∧ Chg Nob w w') := by
  have hw := Chg.refl Nob w
  refine Calls.of_WC Tryd.func114 rfl Tryd.ntmps114 (by simp) ?_
  refine WC.seq (WC.region (WL.assign rfl rfl (WL.nil (WX.then_normal (WC.seq (WC.region (WL.move rfl rfl (?_))))))))
  refine WL.move rfl rfl (WL.neg64 rfl (by omega) rfl (?_))
  refine WL.call eg_117 rfl rfl (rotl_calls x n _ h) ?_
  rintro v w1 ⟨rfl, k⟩
  have zs_k := k.size
  replace hw := hw.pure k
  refine WL.assign rfl rfl (WL.nil (WX.then_normal (WC.ret (?_))))
  refine WX.ret1 (.inl rfl) Tryd.results114 rfl ?_
  exact ⟨_, rfl, rfl, hw⟩
/-! bytes of one's own -/
theorem clone_calls {S : Nat → Prop} {w : World} {ao : Option Addr} {c : Nat} {b : List UInt8} (hr : RSl S w eb ao c b) (hl : b.length ≤ 140737488351232) :
    Calls Tryd.prog 85 [.slice ao b.length c].toArray w (Ret fun v w' => (∃ (ao' : Option Addr) (c' : Nat), v = .slice ao' b.length c' ∧ Row (w.heap.size ≤ ·) w' 5 eb ao' c' b) ∧ Chg Nob w w') := by
  replace hr := hr.old
  have hw := Chg.refl Nob w
  refine Calls.of_WC Tryd.func85 rfl Tryd.ntmps85 (by simp) ?_
  refine WC.seq (WC.region (WL.assign rfl rfl (WL.nil (WX.then_normal (WC.seq (WC.seq (WC.region (?_))))))))
  refine WL.move rfl rfl (?_)
  refine WL.isNil? Tryd.underlying26 rfl rfl rfl (fun h4 => ?_) (fun h4 => ?_)
  ·
    refine WL.nil (WX.then_normal (WC.cond_true rfl (WC.seq (WC.region (WL.assign rfl rfl (WL.nil (WX.then_normal (?_))))))))
    refine WC.ret (WX.then_ret (?_))
    refine WX.ret1 (.inl rfl) Tryd.results85 rfl ?_
    first
      | (subst h4
         have hn := hr.none_nil
         subst hn
         exact ⟨_, rfl, ⟨none, 0, rfl, Row.nil _ _ _ _⟩, hw⟩)
      | exact ⟨_, rfl, ⟨_, _, rfl, hq2⟩, hw⟩
  ·
    refine WL.nil (WX.then_normal (WC.cond_false rfl (WC.skip (WX.then_normal (WC.seq (WC.region (?_)))))))
    refine WL.build (e := eb) [] Tryd.underlying26 Tryd.sizeOf5 Tryd.zeroValue5 rfl rfl rfl (by simp [Value.cells]; done) (by decide) rfl ?_
    intro a_hq w_hq hq l_hq z_hq k_hq
    have zs_k_hq := k_hq.size
    replace hr := hr.pure k_hq
    replace hw := hw.pure k_hq
    refine WL.move rfl rfl (?_)
    refine WL.append (e := eb) info_5 rfl Tryd.underlying26 rfl rfl hq (hr.src Tryd.underlying26) (by (try simp only [List.length_append, List.length_cons, List.length_nil] at *); omega) (by intro b hb; first | (apply hS; omega) | ((try dsimp only); omega)) rfl ?_
    intro a_hq2 c_hq2 w_hq2 hq2 g_hq2 n_hq2
    have z_hq2 := g_hq2.chg.size
    have zs_g_hq2_chg := g_hq2.chg.size
    replace hr := hr.chg g_hq2.chg (by intros; exfalso; (try dsimp only at *); omega)
    replace hw := hw.chg g_hq2.chg (by intros; exfalso; (try dsimp only at *); omega)
    refine WL.assign rfl rfl (WL.nil (WX.then_normal (WC.ret (?_))))
    refine WX.ret1 (.inl rfl) Tryd.results85 rfl ?_
    first
      | (subst h4
         have hn := hr.none_nil
         subst hn
         exact ⟨_, rfl, ⟨none, 0, rfl, Row.nil _ _ _ _⟩, hw⟩)
      | exact ⟨_, rfl, ⟨_, _, rfl, hq2⟩, hw⟩
/-! the message with what is put behind -/
theorem pad_calls {S : Nat → Prop} {w : World} {ao : Option Addr} {c : Nat} {b : List UInt8} (hr : RSl S w eb ao c b) (hl : b.length ≤ 140737488351232) :
    Calls Tryd.prog 105 [.slice ao b.length c].toArray w (Ret fun v w' => (∃ (ao' : Option Addr) (c' : Nat), v = .slice ao' (padded b).length c' ∧ Row (w.heap.size ≤ ·) w' 5 eb ao' c' (padded b)) ∧ Chg Nob w w') := by
  replace hr := hr.old
  have hw := Chg.refl Nob w
  refine Calls.of_WC Tryd.func105 rfl Tryd.ntmps105 (by simp) ?_
  refine WC.seq (WC.region (WL.assign rfl rfl (WL.nil (WX.then_normal (WC.seq (WC.region (WL.move rfl rfl (?_))))))))
  refine WL.call eg_85 rfl rfl (clone_calls hr hl) ?_
  rintro v w1 ⟨⟨a1, c1, rfl, hq⟩, k⟩
  have zs_k := k.size
  replace hr := hr.pure k
  replace hw := hw.pure k
  refine WL.build (e := eb) [128] Tryd.underlying26 Tryd.sizeOf5 Tryd.zeroValue5 rfl rfl rfl (by simp [Value.cells] <;> rfl) (by decide) rfl ?_
  intro a_hn w_hn hn l_hn z_hn k_hn
  have zs_k_hn := k_hn.size
  replace hr := hr.pure k_hn
  replace hw := hw.pure k_hn
  replace hq := hq.pure k_hn
  refine WL.append (e := eb) info_5 rfl Tryd.underlying26 rfl rfl hq (hn.rsl.src Tryd.underlying26) (by (try simp only [List.length_append, List.length_cons, List.length_nil] at *); omega) (by intro b hb; first | (apply hS; omega) | ((try dsimp only); omega)) rfl ?_
  intro a_hq1 c_hq1 w_hq1 hq1 g_hq1 n_hq1
  have z_hq1 := g_hq1.chg.size
  have zs_g_hq1_chg := g_hq1.chg.size
  replace hr := hr.chg g_hq1.chg (by intros; exfalso; (try dsimp only at *); omega)
  replace hw := hw.chg g_hq1.chg (by intros; exfalso; (try dsimp only at *); omega)
  refine WL.assign rfl rfl (WL.nil (WX.then_normal (WC.seq (WC.block (?_)))))
  refine WC.loop (σ := Nat × Option Addr × Nat) (fun s => [(3, .slice s.2.1 (b ++ [128] ++ List.replicate s.1 0).length s.2.2), (0, .slice ao b.length c)])
    (fun s w' => s.1 ≤ (120 - (b.length + 1) % 64) % 64 ∧ Row (w.heap.size ≤ ·) w' 5 eb s.2.1 s.2.2 (b ++ [128] ++ List.replicate s.1 0) ∧ RSl (· < w.heap.size) w' eb ao c b ∧ Chg Nob w w') (fun s => 64 - s.1) (0, a_hq1, c_hq1) ⟨by rw [show List.replicate 0 (0 : UInt8) = [] from rfl, List.append_nil]; rfl, rfl, trivial⟩ ⟨by simp, by simpa using hq1, hr, hw⟩ ?_
  clear hr hw hn hq1 hq
  rintro ⟨j, a1, c1⟩ w2 ⟨hj, hq, hr, hw⟩
  dsimp only at hj hq hr hw ⊢
  have zw := hw.size
  have hlen : (b ++ [128] ++ List.replicate j 0).length = b.length + 1 + j := by simp; omega
  refine WC.seq (WC.seq (WC.region (WL.move rfl rfl (WL.len Tryd.underlying26 rfl rfl (WL.rem64i rfl rfl (by constructor <;> omega) rfl (?_))))))
  refine WL.neq? rfl rfl rfl (fun h13 => ?_) (fun h13 => ?_)
  ·
    refine WL.nil (WX.then_normal (WC.cond_true rfl (WC.skip (WX.then_normal (WC.block (WC.region (WL.move rfl rfl (?_))))))))
    refine WL.build (e := eb) [0] Tryd.underlying26 Tryd.sizeOf5 Tryd.zeroValue5 rfl rfl rfl (by simp [Value.cells] <;> rfl) (by decide) rfl ?_
    intro a_hn w_hn hn l_hn z_hn k_hn
    have zs_k_hn := k_hn.size
    replace hq := hq.pure k_hn
    replace hr := hr.pure k_hn
    replace hw := hw.pure k_hn
    refine WL.append (e := eb) info_5 rfl Tryd.underlying26 rfl rfl hq (hn.rsl.src Tryd.underlying26) (by (try simp only [List.length_append, List.length_cons, List.length_nil] at *); omega) (by intro b hb; first | (apply hS; omega) | ((try dsimp only); omega)) rfl ?_
    intro a_hq2 c_hq2 w_hq2 hq2 g_hq2 n_hq2
    have z_hq2 := g_hq2.chg.size
    have zs_g_hq2_chg := g_hq2.chg.size
    replace hr := hr.chg g_hq2.chg (by intros; exfalso; (try dsimp only at *); omega)
    replace hw := hw.chg g_hq2.chg (by intros; exfalso; (try dsimp only at *); omega)
    refine WL.assign rfl rfl (WL.nil (WX.block_normal (?_)))
    first
      | (have e1 : b ++ [128] ++ List.replicate (j + 1) 0 = b ++ [128] ++ List.replicate j 0 ++ [0] := by rw [List.replicate_succ', List.append_assoc, List.append_assoc, List.append_assoc]
         refine WX.loop_next (j + 1, a_hq2, c_hq2) ⟨?_, rfl, trivial⟩ ⟨by dsimp only; omega, ?_, hr, hw⟩ (by show _ - _ < _ - _; omega)
         ·
           dsimp only; rw [e1]; rfl
         ·
           dsimp only; rw [e1]; exact hq2)
      | (have e1 : be8 (UInt64.ofNat b.length <<< UInt64.ofNat 3) (i + 1) = be8 (UInt64.ofNat b.length <<< UInt64.ofNat 3) i ++ [((UInt64.ofNat b.length <<< UInt64.ofNat 3) >>> UInt64.ofNat (56 - 8 * i)).toUInt8] := by simp [be8, List.range_succ]
         refine WX.loop_next (i + 1, a_hq2, c_hq2) ⟨?_, rfl, ?_, trivial⟩ ⟨by dsimp only; omega, ?_, hw⟩ (by show _ - _ < _ - _; omega)
         ·
           dsimp only; rw [e1, ← List.append_assoc]; rfl
         ·
           dsimp only
           have e2 : 56 - 8 * ((i + 1 : Nat) : Int) = 56 - 8 * (i : Int) - 8 := by omega
           rw [e2]; rfl
         ·
           dsimp only; rw [e1, ← List.append_assoc]; exact hq2)
  ·
    refine WL.nil (WX.then_normal (WC.cond_false rfl (WC.exit (WX.then_exit (WX.then_exit (WX.block_here (WX.then_normal (?_))))))))
    refine WC.seq (WC.region (WL.move rfl rfl (WL.len Tryd.underlying26 rfl rfl (WL.c_i64_u64 Tryd.underlying3 Tryd.underlying44 rfl rfl (WL.num rfl rfl (n_shl64 _ _ _ _ 3 (by decide)) rfl (WL.assign rfl rfl (WL.nil (?_))))))))
    refine WX.then_normal (WC.seq (WC.seq (WC.region (WL.assign rfl rfl (WL.nil (WX.then_normal (WC.block (?_))))))))
    have hz : j = (120 - (b.length + 1) % 64) % 64 := by omega
    have hn8 : (B64 (b.length : Int)) = UInt64.ofNat b.length := by
      apply UInt64.toNat_inj.1
      rw [B64_nat (by omega)]
      simp
      omega
    rw [hn8]
    refine WC.loop (σ := Nat × Option Addr × Nat) (fun s => [(3, .slice s.2.1 (b ++ [128] ++ List.replicate j 0 ++ be8 (UInt64.ofNat b.length <<< UInt64.ofNat 3) s.1).length s.2.2), (4, v64 (UInt64.ofNat b.length <<< UInt64.ofNat 3)), (5, vi (56 - 8 * (s.1 : Int)))])
      (fun s w' => s.1 ≤ 8 ∧ Row (w.heap.size ≤ ·) w' 5 eb s.2.1 s.2.2 (b ++ [128] ++ List.replicate j 0 ++ be8 (UInt64.ofNat b.length <<< UInt64.ofNat 3) s.1) ∧ Chg Nob w w') (fun s => 8 - s.1) (0, a1, c1) ⟨by rw [show be8 (UInt64.ofNat b.length <<< UInt64.ofNat 3) 0 = [] from rfl, List.append_nil]; rfl, rfl, rfl, trivial⟩ ⟨by simp, by simpa [be8] using hq, hw⟩ ?_
    clear hr hw hq
    rintro ⟨i, a2, c2⟩ w3 ⟨hi, hq, hw⟩
    dsimp only at hi hq hw ⊢
    have zw3 := hw.size
    have hlen3 : (b ++ [128] ++ List.replicate j 0 ++ be8 (UInt64.ofNat b.length <<< UInt64.ofNat 3) i).length = b.length + 1 + j + i := by simp [be8]; omega
    refine WC.seq (WC.seq (WC.region (WL.move rfl rfl (?_))))
    refine WL.geq? rfl rfl rfl (fun h22 => ?_) (fun h22 => ?_)
    ·
      refine WL.nil (WX.then_normal (WC.cond_true rfl (WC.skip (WX.then_normal (WC.seq (WC.block (WC.region (?_))))))))
      refine WL.move rfl rfl (WL.move rfl rfl (WL.move rfl rfl (?_)))
      refine WL.shrv (56 - 8 * i) rfl rfl ⟨by omega, by omega⟩ rfl ?_
      refine WL.c_u64_u8 Tryd.underlying44 Tryd.underlying5 rfl rfl (?_)
      refine WL.build (e := eb) [((UInt64.ofNat b.length <<< UInt64.ofNat 3) >>> UInt64.ofNat (56 - 8 * i)).toUInt8] Tryd.underlying26 Tryd.sizeOf5 Tryd.zeroValue5 rfl rfl rfl (by simp [Value.cells] <;> rfl) (by decide) rfl ?_
      intro a_hn w_hn hn l_hn z_hn k_hn
      have zs_k_hn := k_hn.size
      replace hq := hq.pure k_hn
      replace hw := hw.pure k_hn
      refine WL.append (e := eb) info_5 rfl Tryd.underlying26 rfl rfl hq (hn.rsl.src Tryd.underlying26) (by (try simp only [List.length_append, List.length_cons, List.length_nil] at *); omega) (by intro b hb; first | (apply hS; omega) | ((try dsimp only); omega)) rfl ?_
      intro a_hq2 c_hq2 w_hq2 hq2 g_hq2 n_hq2
      have z_hq2 := g_hq2.chg.size
      have zs_g_hq2_chg := g_hq2.chg.size
      replace hw := hw.chg g_hq2.chg (by intros; exfalso; (try dsimp only at *); omega)
      refine WL.assign rfl rfl (WL.nil (WX.block_normal (WX.then_normal (WC.region (WL.move rfl rfl (WL.sub64 rfl rfl (by omega) rfl (WL.assign rfl rfl (?_))))))))
      refine WL.nil (?_)
      first
        | (have e1 : b ++ [128] ++ List.replicate (j + 1) 0 = b ++ [128] ++ List.replicate j 0 ++ [0] := by rw [List.replicate_succ', List.append_assoc, List.append_assoc, List.append_assoc]
           refine WX.loop_next (j + 1, a_hq2, c_hq2) ⟨?_, rfl, trivial⟩ ⟨by dsimp only; omega, ?_, hr, hw⟩ (by show _ - _ < _ - _; omega)
           ·
             dsimp only; rw [e1]; rfl
           ·
             dsimp only; rw [e1]; exact hq2)
        | (have e1 : be8 (UInt64.ofNat b.length <<< UInt64.ofNat 3) (i + 1) = be8 (UInt64.ofNat b.length <<< UInt64.ofNat 3) i ++ [((UInt64.ofNat b.length <<< UInt64.ofNat 3) >>> UInt64.ofNat (56 - 8 * i)).toUInt8] := by simp [be8, List.range_succ]
           refine WX.loop_next (i + 1, a_hq2, c_hq2) ⟨?_, rfl, ?_, trivial⟩ ⟨by dsimp only; omega, ?_, hw⟩ (by show _ - _ < _ - _; omega)
           ·
             dsimp only; rw [e1, ← List.append_assoc]; rfl
           ·
             dsimp only
             have e2 : 56 - 8 * ((i + 1 : Nat) : Int) = 56 - 8 * (i : Int) - 8 := by omega
             rw [e2]; rfl
           ·
             dsimp only; rw [e1, ← List.append_assoc]; exact hq2)
    ·
      refine WL.nil (WX.then_normal (WC.cond_false rfl (WC.exit (WX.then_exit (WX.then_exit (WX.block_here (WX.then_normal (?_))))))))
      refine WC.seq (WC.region (WL.move rfl rfl (WL.assign rfl rfl (WL.nil (WX.then_normal (WC.ret (?_)))))))
      refine WX.ret1 (.inl rfl) Tryd.results105 rfl ?_
      have hi8 : i = 8 := by omega
      have e1 : padded b = b ++ [128] ++ List.replicate j 0 ++ be8 (UInt64.ofNat b.length <<< UInt64.ofNat 3) i := by rw [hi8, hz]; rfl
      rw [e1]
      exact ⟨_, rfl, ⟨a2, c2, rfl, hq⟩, hw⟩
end Go.Proofs.YtjeldcjchipdgaaDoor
