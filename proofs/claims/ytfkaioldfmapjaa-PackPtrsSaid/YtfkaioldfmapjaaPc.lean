import Derived.Test.YtfkaioldfmapjaaPb
namespace Go.Proofs.Ytfkaioldfmapjaa
open Go.RowKit Go.HL

def longI (i : Item) : Bool := decide (i.kind = 2 ∧ 4000 < i.s.size)
def okI (i : Item) : Bool := decide (i.kind = 1 ∧ i.s = ⟨#[]⟩ ∨ i.kind = 2 ∧ i.n = 0)
def checkE (l : List Item) : Int := if 2000 < l.length ∨ l.any longI = true then 14 else if l.all okI = true then 0 else 2

theorem check_calls {S : Nat → Prop} {w : World} {ao : Option Addr} {c : Nat} {l : List Item} (hr : RSl S w eit ao c l) (hl : l.length ≤ 9223372036854775807) :
    Calls Try.prog 31 [.slice ao l.length c].toArray w (Ret fun v w' => v = vi (checkE l) ∧ Chg Nob w w') := by
  replace hr := hr.old
  refine Calls.of_WC Try.func31 rfl Try.ntmps31 (by simp) ?_
  refine WC.seq (WC.region (WL.assign rfl rfl (WL.nil (WX.then_normal (WC.seq (WC.region (WL.assign rfl rfl (?_))))))))
  refine WL.nil (WX.then_normal (WC.seq (WC.seq (WC.region (WL.move rfl rfl (WL.len Try.underlying22 rfl rfl (?_)))))))
  refine WL.gtr? rfl rfl rfl (fun h => ?_) (fun h => ?_)
  ·
    refine WL.move rfl rfl (WL.pass rfl rfl rfl rfl (WL.pass rfl rfl rfl rfl (WL.pass rfl rfl rfl rfl (WL.pickT rfl rfl rfl (WL.nil (WX.then_normal (WC.cond_true rfl (?_))))))))
    refine WC.seq (WC.region (WL.assign rfl rfl (WL.nil (WX.then_normal (WC.ret (WX.then_ret (?_)))))))
    have : checkE l = 14 := by unfold checkE; rw [if_pos (.inl (by omega))]
    rw [this]
    exact WX.ret1 (.inl rfl) Try.results31 rfl ⟨_, rfl, rfl, Chg.refl _ _⟩
  ·
    refine WL.move rfl rfl (WL.want rfl rfl rfl (WL.move rfl rfl (WL.want rfl rfl rfl (WL.move rfl rfl (WL.want rfl rfl rfl (?_))))))
    refine WL.call eg_49 rfl rfl (containsFunc_item hr _ _ longI eg_48 (fun W x k => check1_calls x W) hl) ?_
    rintro v w1 ⟨rfl, k⟩
    have zs_k := k.size
    replace hr := hr.pure k
    cases hlong : l.any longI
    ·
      refine WL.pickF rfl rfl rfl (WL.nil (WX.then_normal (WC.cond_false rfl (WC.skip (WX.then_normal (WC.seq (WC.seq (?_))))))))
      refine WC.region (WL.move rfl rfl (WL.len Try.underlying22 rfl rfl (WL.move rfl rfl (WL.nil (WX.then_normal (WC.block (?_)))))))
      refine WC.loop (σ := Nat) (fun i => [(14, .slice ao l.length c), (15, vi l.length), (16, vi i)])
        (fun i w' => i ≤ l.length ∧ (l.take i).all okI = true ∧ Chg Nob w1 w') (fun i => l.length - i) 0 ⟨rfl, rfl, rfl, trivial⟩ ⟨Nat.zero_le _, by simp, Chg.refl _ _⟩ ?_
      rintro i w2 ⟨hi, hall, k2⟩
      replace hr := hr.pure k2
      have kk := k.pure k2
      have zk := kk.size
      refine WC.seq (WC.region (?_))
      refine WL.lss? rfl rfl rfl (fun h17 => ?_) (fun h17 => ?_)
      ·
        refine WL.nil (WX.then_normal (WC.seq (WC.cond_true rfl (WC.skip (WX.then_normal (WC.seq (WC.block (?_))))))))
        refine WC.seq (WC.region (?_))
        obtain ⟨x, hx⟩ : ∃ x, l[i]? = some x := ⟨_, List.getElem?_eq_getElem (by omega)⟩
        refine WL.indexT Try.underlying22 Try.sizeOf37 hr rfl rfl ⟨hx, rfl⟩ rfl ?_
        intro b_1 o_1 hc_1
        refine WL.loads _ Try.isAgg37 Try.sizeOf37 rfl hc_1 rfl rfl (?_)
        refine WL.alloc Try.zeroValue37 rfl ?_
        intro g_2 w_2 hge_2 hlt_2 hb_2 k_2
        have zs_k_2 := k_2.size
        replace hr := hr.pure k_2
        replace kk := kk.pure k_2
        refine WL.stores Try.sizeOf37 hb_2 rfl rfl rfl (by first | exact Enc.one _ _ | (simp [Value.oneCell']; done) | (simp [Value.oneCell', Value.cells]; done)) (Nat.le_of_ble_eq_true rfl) rfl ?_
        intro w_3 hs_3 hn_3 k_3
        have zs_k_3 := k_3.size
        replace hr := hr.chg k_3 (by first | (intro h1; have h2 : _ = _ := h1; exfalso; omega) | (intros; exfalso; (try dsimp only at *); omega) | (intro b h1 h2 h3; exfalso; have h4 := h3.2; (try dsimp only at *); omega) | (intro h1; exfalso; have h4 := h1.2; (try dsimp only at *); omega) | (intro x h1 h2; exfalso; have h4 := h2.2; (try dsimp only at *); omega))
        replace kk := kk.chg k_3 (by first | (intro h1; have h2 : _ = _ := h1; exfalso; omega) | (intros; exfalso; (try dsimp only at *); omega) | (intro b h1 h2 h3; exfalso; have h4 := h3.2; (try dsimp only at *); omega) | (intro h1; exfalso; have h4 := h1.2; (try dsimp only at *); omega) | (intro x h1 h2; exfalso; have h4 := h2.2; (try dsimp only at *); omega))
        replace hb_2 := hn_3
        refine WL.nil (WX.then_normal (WC.block (WC.seq (WC.seq (WC.region (WL.fieldAddr (fld_37_0) rfl rfl (WL.loadB Try.isAgg3 hb_2 rfl rfl rfl (?_))))))))
        refine WL.eql? rfl rfl rfl (fun h23 => ?_) (fun h23 => ?_)
        ·
          refine WL.move rfl rfl (WL.want rfl rfl rfl (WL.fieldAddr (fld_37_2) rfl rfl (WL.want rfl rfl rfl (WL.loadB Try.isAgg9 hb_2 rfl rfl rfl (WL.want rfl rfl rfl (?_))))))
          refine WL.seql? rfl rfl rfl (fun h27 => ?_) (fun h27 => ?_)
          ·
            refine WL.pickT rfl rfl rfl (WL.assign rfl rfl (WL.nil (WX.then_normal (WC.cond_true rfl (WC.skip (WX.then_normal (WC.cond_true rfl (?_))))))))
            refine WC.skip (WX.block_normal (WX.block_normal (WX.then_normal (WC.region (WL.add64 rfl rfl (by first | omega | (constructor <;> omega)) rfl (WL.move rfl rfl (WL.nil (?_))))))))
            refine WX.loop_next (i + 1) ⟨rfl, rfl, rfl, trivial⟩ ⟨by omega, ?_, k2.pure ?_⟩ (by show _ - _ < _ - _; omega)
            ·
              rw [List.take_add_one, hx]
              simp_all [okI]
            ·
              exact (k_2.chg k_3 (by first | (intro h1; have h2 : _ = _ := h1; exfalso; omega) | (intros; exfalso; (try dsimp only at *); omega) | (intro b h1 h2 h3; exfalso; have h4 := h3.2; (try dsimp only at *); omega) | (intro h1; exfalso; have h4 := h1.2; (try dsimp only at *); omega) | (intro x h1 h2; exfalso; have h4 := h2.2; (try dsimp only at *); omega)))
          ·
            refine WL.pickT rfl rfl rfl (WL.assign rfl rfl (WL.nil (WX.then_normal (WC.cond_false rfl (WC.region (WL.fieldAddr (fld_37_0) rfl rfl (WL.loadB Try.isAgg3 hb_2 rfl rfl rfl (?_))))))))
            refine WL.eql? rfl rfl rfl (fun h31 => ?_) (fun h31 => ?_)
            ·
              refine WL.move rfl rfl (WL.want rfl rfl rfl (WL.fieldAddr (fld_37_1) rfl rfl (WL.want rfl rfl rfl (WL.loadB Try.isAgg3 hb_2 rfl rfl rfl (WL.want rfl rfl rfl (?_))))))
              refine WL.eql? rfl rfl rfl (fun h35 => ?_) (fun h35 => ?_)
              ·
                refine WL.pickT rfl rfl rfl (WL.assign rfl rfl (WL.nil (WX.then_normal (WC.cond_true rfl (WC.skip (WX.block_normal (WX.block_normal (?_))))))))
                refine WX.then_normal (WC.region (WL.add64 rfl rfl (by first | omega | (constructor <;> omega)) rfl (WL.move rfl rfl (WL.nil (?_)))))
                refine WX.loop_next (i + 1) ⟨rfl, rfl, rfl, trivial⟩ ⟨by omega, ?_, k2.pure ?_⟩ (by show _ - _ < _ - _; omega)
                ·
                  rw [List.take_add_one, hx]
                  simp_all [okI]
                ·
                  exact (k_2.chg k_3 (by first | (intro h1; have h2 : _ = _ := h1; exfalso; omega) | (intros; exfalso; (try dsimp only at *); omega) | (intro b h1 h2 h3; exfalso; have h4 := h3.2; (try dsimp only at *); omega) | (intro h1; exfalso; have h4 := h1.2; (try dsimp only at *); omega) | (intro x h1 h2; exfalso; have h4 := h2.2; (try dsimp only at *); omega)))
              ·
                refine WL.pickT rfl rfl rfl (WL.assign rfl rfl (WL.nil (WX.then_normal (WC.cond_false rfl (WC.seq (WC.region (WL.assign rfl rfl (?_))))))))
                refine WL.nil (WX.then_normal (WC.ret (WX.block_ret (WX.block_ret (WX.then_ret (WX.then_ret (WX.block_ret (?_))))))))
                refine WX.then_ret (?_)
                refine WX.ret1 (.inl rfl) Try.results31 rfl ?_
                refine ⟨_, rfl, ?_, kk⟩
                congr 1
                unfold checkE
                rw [if_neg (by simp [hlong]; omega)]
                first | (rw [if_pos (by rw [List.take_of_length_le (by omega)] at hall; exact hall)]; done) | (rw [if_neg (fun ha => by have := List.all_eq_true.1 ha x (List.mem_of_getElem? hx); simp_all [okI])])
            ·
              refine WL.move rfl rfl (WL.pass rfl rfl rfl rfl (WL.pass rfl rfl rfl rfl (WL.pass rfl rfl rfl rfl (WL.pickF rfl rfl rfl (WL.assign rfl rfl (WL.nil (WX.then_normal (?_))))))))
              refine WC.cond_false rfl (WC.seq (WC.region (WL.assign rfl rfl (WL.nil (WX.then_normal (WC.ret (WX.block_ret (?_))))))))
              refine WX.block_ret (WX.then_ret (WX.then_ret (WX.block_ret (WX.then_ret (?_)))))
              refine WX.ret1 (.inl rfl) Try.results31 rfl ?_
              refine ⟨_, rfl, ?_, kk⟩
              congr 1
              unfold checkE
              rw [if_neg (by simp [hlong]; omega)]
              first | (rw [if_pos (by rw [List.take_of_length_le (by omega)] at hall; exact hall)]; done) | (rw [if_neg (fun ha => by have := List.all_eq_true.1 ha x (List.mem_of_getElem? hx); simp_all [okI])])
        ·
          refine WL.move rfl rfl (WL.pass rfl rfl rfl rfl (WL.pass rfl rfl rfl rfl (WL.pass rfl rfl rfl rfl (WL.pickF rfl rfl rfl (WL.assign rfl rfl (WL.nil (WX.then_normal (?_))))))))
          refine WC.cond_false rfl (WC.region (WL.fieldAddr (fld_37_0) rfl rfl (WL.loadB Try.isAgg3 hb_2 rfl rfl rfl (?_))))
          refine WL.eql? rfl rfl rfl (fun h31 => ?_) (fun h31 => ?_)
          ·
            refine WL.move rfl rfl (WL.want rfl rfl rfl (WL.fieldAddr (fld_37_1) rfl rfl (WL.want rfl rfl rfl (WL.loadB Try.isAgg3 hb_2 rfl rfl rfl (WL.want rfl rfl rfl (?_))))))
            refine WL.eql? rfl rfl rfl (fun h35 => ?_) (fun h35 => ?_)
            ·
              refine WL.pickT rfl rfl rfl (WL.assign rfl rfl (WL.nil (WX.then_normal (WC.cond_true rfl (WC.skip (WX.block_normal (WX.block_normal (?_))))))))
              refine WX.then_normal (WC.region (WL.add64 rfl rfl (by first | omega | (constructor <;> omega)) rfl (WL.move rfl rfl (WL.nil (?_)))))
              refine WX.loop_next (i + 1) ⟨rfl, rfl, rfl, trivial⟩ ⟨by omega, ?_, k2.pure ?_⟩ (by show _ - _ < _ - _; omega)
              ·
                rw [List.take_add_one, hx]
                simp_all [okI]
              ·
                exact (k_2.chg k_3 (by first | (intro h1; have h2 : _ = _ := h1; exfalso; omega) | (intros; exfalso; (try dsimp only at *); omega) | (intro b h1 h2 h3; exfalso; have h4 := h3.2; (try dsimp only at *); omega) | (intro h1; exfalso; have h4 := h1.2; (try dsimp only at *); omega) | (intro x h1 h2; exfalso; have h4 := h2.2; (try dsimp only at *); omega)))
            ·
              refine WL.pickT rfl rfl rfl (WL.assign rfl rfl (WL.nil (WX.then_normal (WC.cond_false rfl (WC.seq (WC.region (WL.assign rfl rfl (?_))))))))
              refine WL.nil (WX.then_normal (WC.ret (WX.block_ret (WX.block_ret (WX.then_ret (WX.then_ret (WX.block_ret (?_))))))))
              refine WX.then_ret (?_)
              refine WX.ret1 (.inl rfl) Try.results31 rfl ?_
              refine ⟨_, rfl, ?_, kk⟩
              congr 1
              unfold checkE
              rw [if_neg (by simp [hlong]; omega)]
              first | (rw [if_pos (by rw [List.take_of_length_le (by omega)] at hall; exact hall)]; done) | (rw [if_neg (fun ha => by have := List.all_eq_true.1 ha x (List.mem_of_getElem? hx); simp_all [okI])])
          ·
            refine WL.move rfl rfl (WL.pass rfl rfl rfl rfl (WL.pass rfl rfl rfl rfl (WL.pass rfl rfl rfl rfl (WL.pickF rfl rfl rfl (WL.assign rfl rfl (WL.nil (WX.then_normal (?_))))))))
            refine WC.cond_false rfl (WC.seq (WC.region (WL.assign rfl rfl (WL.nil (WX.then_normal (WC.ret (WX.block_ret (?_))))))))
            refine WX.block_ret (WX.then_ret (WX.then_ret (WX.block_ret (WX.then_ret (?_)))))
            refine WX.ret1 (.inl rfl) Try.results31 rfl ?_
            refine ⟨_, rfl, ?_, kk⟩
            congr 1
            unfold checkE
            rw [if_neg (by simp [hlong]; omega)]
            first | (rw [if_pos (by rw [List.take_of_length_le (by omega)] at hall; exact hall)]; done) | (rw [if_neg (fun ha => by have := List.all_eq_true.1 ha x (List.mem_of_getElem? hx); simp_all [okI])])
      ·
        refine WL.nil (WX.then_normal (WC.seq (WC.cond_false rfl (WC.exit (WX.then_exit (WX.then_exit (WX.block_here (?_))))))))
        refine WX.then_normal (WC.seq (WC.region (WL.assign rfl rfl (WL.nil (WX.then_normal (WC.ret (?_)))))))
        refine WX.ret1 (.inl rfl) Try.results31 rfl ?_
        refine ⟨_, rfl, ?_, kk⟩
        congr 1
        unfold checkE
        rw [if_neg (by simp [hlong]; omega)]
        first | (rw [if_pos (by rw [List.take_of_length_le (by omega)] at hall; exact hall)]; done) | (rw [if_neg (fun ha => by have := List.all_eq_true.1 ha x (List.mem_of_getElem? hx); simp_all [okI])])
    ·
      refine WL.pickF rfl rfl rfl (WL.nil (WX.then_normal (WC.cond_true rfl (WC.seq (WC.region (WL.assign rfl rfl (WL.nil (?_))))))))
      refine WX.then_normal (WC.ret (WX.then_ret (?_)))
      have : checkE l = 14 := by unfold checkE; rw [if_pos (.inr hlong)]
      rw [this]
      exact WX.ret1 (.inl rfl) Try.results31 rfl ⟨_, rfl, rfl, k⟩
end Go.Proofs.Ytfkaioldfmapjaa
