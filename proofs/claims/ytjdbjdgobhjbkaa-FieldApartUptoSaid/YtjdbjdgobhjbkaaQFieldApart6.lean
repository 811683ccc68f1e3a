import Derived.Test.YtjdbjdgobhjbkaaQFieldApart5
namespace Go.Proofs.Ytjdbjdgobhjbkaa
open Go.RowKit Go.HL

theorem bytes_eq {a b : List UInt8} : (⟨a.toArray⟩ : ByteArray) = ⟨b.toArray⟩ ↔ a = b := by simp
theorem SolR.bad {rows : List (List UInt8)} {rgt out : List UInt8} {e : Int} (h : SolR rows rgt out e) (hs : ¬ ShapeOk rows rgt) : out = [] ∧ e = 1 := by
  rcases h with ⟨_, h1, h2⟩ | ⟨h1, _⟩ | ⟨h1, _⟩
  · exact ⟨h1, h2⟩
  · exact absurd h1 hs
  · exact absurd h1 hs
/-- a product of given unknowns -/
theorem SolR.holds {rows : List (List UInt8)} {rgt out x : List UInt8} (h : SolR rows rgt out 0) (hx : x.length = rows.length) (hp : ∀ i, i < rows.length → sumF rows.length (fun j => mul (fn rows i j) (x.getD j 0)) = rgt.getD i 0) : out = x := by
  rcases h with ⟨_, _, h1⟩ | ⟨_, _, hl, h1⟩ | ⟨_, h1, _⟩
  · exact absurd h1 (by decide)
  · exact getD_ext (hl.trans hx.symm) (fun i hi => ((h1 (fun j => x.getD j 0)).1 hp i (by omega)).symm)
  · exact absurd h1 (by decide)
theorem SolR.miss2 {rows : List (List UInt8)} {rgt out r2 o2 : List UInt8} {e2 : Int} (h : SolR rows rgt out 7) (k : SolR rows r2 o2 e2) (hs : ShapeOk rows r2) : o2 = [] ∧ e2 = 7 := by
  rcases h with ⟨_, _, h1⟩ | ⟨_, h1, _⟩ | ⟨_, _, _, y, ⟨j, hj, hy⟩, hK⟩
  · exact absurd h1 (by decide)
  · exact absurd h1 (by decide)
  · rcases k with ⟨k1, _⟩ | ⟨_, _, _, k1⟩ | ⟨_, k1, k2, _⟩
    · exact absurd hs k1
    · exact absurd (ker_uniq k1 hK hj) hy
    · exact ⟨k2, k1⟩
set_option maxHeartbeats 4000000 in
theorem FieldHolds_calls {w : World} {c cx : Nat} {ao ax : Option Addr} {rs : List Rw} {xs : List UInt8} (h : RS (· < w.heap.size) w ao c rs) (hx : RSl (· < w.heap.size) w eb ax cx xs) (hl1 : rs.length ≤ 9223372036854775807) (hl2 : xs.length ≤ 9223372036854775807) (hl3 : ∀ r ∈ rs, r.xs.length ≤ 9223372036854775807) :
    Calls Try.prog 4 [.slice ao rs.length c, .slice ax xs.length cx].toArray w (Ret fun v w' => v = .bool true ∧ Chg Nob w w') := by
  have hw := Chg.refl Nob w
  have hml := mx_len rs
  refine Calls.of_WC Try.func4 rfl Try.ntmps4 (by simp) ?_
  refine WC.seq (WC.region (WL.assign rfl rfl (WL.nil (WX.then_normal (WC.seq (WC.seq (WC.region (?_))))))))
  refine WL.call eg_11 rfl rfl (known2_calls _) ?_
  rintro v w1 ⟨rfl, k1⟩
  have zs_k1 := k1.size
  replace h := h.pure k1
  replace hx := hx.pure k1
  replace hw := hw.pure k1
  refine WL.not rfl rfl (WL.nil (WX.then_normal (WC.cond_false rfl (WC.skip (WX.then_normal (WC.seq (WC.region (?_))))))))
  refine WL.move rfl rfl (WL.len Try.underlying22 rfl rfl (WL.assign rfl rfl (WL.nil (WX.then_normal (WC.seq (WC.region (?_)))))))
  refine WL.call eg_13 rfl rfl (fresh_calls _) ?_
  rintro v w1 ⟨⟨gf, rfl, hF, hgf⟩, k1⟩
  have zs_k1 := k1.size
  replace h := h.pure k1
  replace hx := hx.pure k1
  replace hw := hw.pure k1
  have hgw : w.heap.size ≤ gf := by have := hw.size; have := k1.size; omega
  refine WL.assign rfl rfl (WL.nil (WX.then_normal (WC.seq (WC.region (WL.assign rfl rfl (WL.nil (WX.then_normal (?_))))))))
  refine WC.seq (WC.seq (WC.region (WL.assign rfl rfl (WL.nil (WX.then_normal (WC.block (?_)))))))
  refine WC.loop (σ := Nat × (Option Addr × Nat × List UInt8)) (fun q => [(0, .slice ao rs.length c), (1, .slice ax xs.length cx), (5, vi rs.length), (6, .pointer (some ⟨gf, 0, none⟩)), (7, .slice q.2.1 q.2.2.2.length q.2.2.1), (8, vi (q.1 : Int))])
    (fun q w' => (q.1 ≤ rs.length ∧ (q.1 = 0 ∨ xs.length = rs.length ∧ rs.length ≤ 8)) ∧ (q.2.2.2.length = q.1 ∧ (∀ j, j < q.1 → q.2.2.2.getD j 0 = sumF rs.length (fun k => mul (fn (mx rs) j k) (xs.getD k 0))) ∧ ∀ j r, j < q.1 → rs[j]? = some r → r.xs.length = rs.length) ∧ Row (fun b => gf < b) w' 5 eb q.2.1 q.2.2.1 q.2.2.2 ∧ Fld w' gf ∧ RS (· < w.heap.size) w' ao c rs ∧ RSl (· < w.heap.size) w' eb ax cx xs ∧ Chg Nob w w') (fun q => rs.length - q.1) (0, none, 0, []) ⟨rfl, rfl, rfl, rfl, rfl, rfl, trivial⟩ ⟨⟨Nat.zero_le _, .inl rfl⟩, ⟨rfl, fun j hj => absurd hj (Nat.not_lt_zero j), fun j r hj => absurd hj (Nat.not_lt_zero j)⟩, Row.nil _ _ _ _, hF, h, hx, hw⟩ ?_
  clear hF h hx hw
  rintro ⟨i, aq, cq, rgt⟩ w1 ⟨⟨hi, hi0⟩, ⟨hql, hqv, hqr⟩, hq, hF, h, hx, hw⟩
  simp only at hi hi0 hql hqv hqr hq
  dsimp only
  have lgf := hF.lt
  refine WC.seq (WC.seq (WC.region (WL.move rfl rfl (WL.move rfl rfl (?_)))))
  refine WL.lss? rfl rfl rfl (fun h21 => ?_) (fun h21 => ?_)
  ·
    refine WL.nil (WX.then_normal (WC.cond_true rfl (WC.skip (WX.then_normal (WC.seq (WC.block (WC.seq (?_))))))))
    refine WC.seq (WC.region (WL.move rfl rfl (WL.move rfl rfl (?_))))
    obtain ⟨r, hri⟩ : ∃ r, rs[i]? = some r := ⟨_, List.getElem?_eq_getElem (by omega)⟩
    have hrl3 := hl3 r (List.mem_of_getElem? hri)
    refine WL.indexT (e := erow) Try.underlying22 Try.sizeOf23 h.outer rfl rfl ⟨hri, rfl⟩ rfl ?_
    intro bb oo hcc
    refine WL.load Try.isAgg23 rfl (hcc 0 _ rfl) rfl ?_
    refine WL.len Try.underlying23 rfl rfl (WL.move rfl rfl (?_))
    refine WL.neq? rfl rfl rfl (fun h30 => ?_) (fun h30 => ?_)
    ·
      refine WL.move rfl rfl (WL.pass rfl rfl rfl rfl (WL.pass rfl rfl rfl rfl (WL.pass rfl rfl rfl rfl (WL.pass rfl rfl rfl rfl (WL.pickT rfl rfl rfl (WL.move rfl rfl (WL.pass rfl rfl rfl rfl (?_))))))))
      refine WL.pass rfl rfl rfl rfl (WL.pickT rfl rfl rfl (WL.nil (WX.then_normal (WC.cond_true rfl (WC.seq (WC.region (WL.assign rfl rfl (?_))))))))
      refine WL.nil (WX.then_normal (WC.ret (WX.then_ret (WX.block_ret (WX.then_ret (WX.then_ret (WX.block_ret (?_))))))))
      refine WX.then_ret (?_)
      refine WX.ret1 (.inl rfl) Try.results4 rfl ?_
      exact ⟨_, rfl, rfl, hw⟩
    ·
      refine WL.move rfl rfl (WL.want rfl rfl rfl (WL.move rfl rfl (WL.want rfl rfl rfl (WL.len Try.underlying23 rfl rfl (WL.want rfl rfl rfl (WL.move rfl rfl (WL.want rfl rfl rfl (?_))))))))
      refine WL.neq? rfl rfl rfl (fun h35 => ?_) (fun h35 => ?_)
      ·
        refine WL.pickF rfl rfl rfl (WL.move rfl rfl (WL.pass rfl rfl rfl rfl (WL.pass rfl rfl rfl rfl (WL.pickT rfl rfl rfl (WL.nil (WX.then_normal (WC.cond_true rfl (?_))))))))
        refine WC.seq (WC.region (WL.assign rfl rfl (WL.nil (WX.then_normal (WC.ret (WX.then_ret (WX.block_ret (?_))))))))
        refine WX.then_ret (WX.then_ret (WX.block_ret (WX.then_ret (?_))))
        refine WX.ret1 (.inl rfl) Try.results4 rfl ?_
        exact ⟨_, rfl, rfl, hw⟩
      ·
        refine WL.pickF rfl rfl rfl (WL.move rfl rfl (WL.want rfl rfl rfl (WL.move rfl rfl (WL.want rfl rfl rfl (?_)))))
        refine WL.gtr? rfl rfl rfl (fun h39 => ?_) (fun h39 => ?_)
        ·
          refine WL.pickF rfl rfl rfl (WL.nil (WX.then_normal (WC.cond_true rfl (WC.seq (WC.region (WL.assign rfl rfl (WL.nil (?_))))))))
          refine WX.then_normal (WC.ret (WX.then_ret (WX.block_ret (WX.then_ret (WX.then_ret (WX.block_ret (WX.then_ret (?_))))))))
          refine WX.ret1 (.inl rfl) Try.results4 rfl ?_
          exact ⟨_, rfl, rfl, hw⟩
        ·
          refine WL.pickF rfl rfl rfl (WL.nil (WX.then_normal (WC.cond_false rfl (WC.skip (WX.then_normal (WC.seq (WC.region (?_))))))))
          refine WL.assign rfl rfl (WL.nil (WX.then_normal (WC.seq (WC.seq (WC.region (WL.assign rfl rfl (WL.nil (?_))))))))
          refine WX.then_normal (WC.block (?_))
          have hrl : r.xs.length = rs.length := by omega
          have hxl : xs.length = rs.length := by omega
          have hn8 : rs.length ≤ 8 := by omega
          refine WC.loop (σ := Nat) (fun k => [(0, .slice ao rs.length c), (1, .slice ax xs.length cx), (5, vi rs.length), (6, .pointer (some ⟨gf, 0, none⟩)), (7, .slice aq rgt.length cq), (8, vi (i : Int)), (9, v8 (sumF k (fun k => mul (fn (mx rs) i k) (xs.getD k 0)))), (10, vi (k : Int))])
            (fun k w' => k ≤ rs.length ∧ Row (fun b => gf < b) w' 5 eb aq cq rgt ∧ Fld w' gf ∧ RS (· < w.heap.size) w' ao c rs ∧ RSl (· < w.heap.size) w' eb ax cx xs ∧ Chg Nob w w') (fun k => rs.length - k) 0 ⟨rfl, rfl, rfl, rfl, rfl, rfl, rfl, rfl, trivial⟩ ⟨Nat.zero_le _, hq, hF, h, hx, hw⟩ ?_
          clear hF h hx hw hq
          rintro k w2 ⟨hk, hq, hF, h, hx, hw⟩
          have lgf := hF.lt
          refine WC.seq (WC.seq (WC.region (WL.move rfl rfl (WL.move rfl rfl (?_)))))
          refine WL.lss? rfl rfl rfl (fun h43 => ?_) (fun h43 => ?_)
          ·
            refine WL.nil (WX.then_normal (WC.cond_true rfl (WC.skip (WX.then_normal (WC.seq (WC.block (?_)))))))
            obtain ⟨a, ha⟩ : ∃ a, r.xs[k]? = some a := ⟨_, List.getElem?_eq_getElem (by omega)⟩
            obtain ⟨b, hb⟩ : ∃ b, xs[k]? = some b := ⟨_, List.getElem?_eq_getElem (by omega)⟩
            have hfa : fn (mx rs) i k = a := by rw [fn_mx hri, List.getD_eq_getElem?_getD, ha]; rfl
            have hxb : xs.getD k 0 = b := by rw [List.getD_eq_getElem?_getD, hb]; rfl
            obtain ⟨ob, oo2, ho⟩ := h.outer.place hri
            obtain ⟨ib, io, hio⟩ := (h.at hri).place ha
            obtain ⟨xb, xo, hxo⟩ := hx.place hb
            refine WC.draw (fun b => b = gf) [0, 1, 2, 3, 4, 5, 6, 7, 8, 9, 10, 11, 12] [13, 14, 15] mixed rfl rfl (fun wd_1 kd_1 zd_1 => ?_)
            have zs_kd_1 := kd_1.size
            replace hq := hq.pure kd_1
            replace hF := hF.pure kd_1
            replace h := h.pure kd_1
            replace hx := hx.pure kd_1
            replace hw := hw.pure kd_1
            apply DQ.step (E' := [(9, _)])
            case ho => rfl
            case hs => exact ⟨rfl, trivial⟩
            case hk => rfl
            case h1 =>
              intro wq_3 kq_3
              refine WL.move rfl rfl (?_)
              refine WL.nil ?_
              exact WX.one ⟨rfl, by first | exact Chg.refl _ _ | assumption⟩
            apply DQ.step (E' := [(6, _)])
            case ho => rfl
            case hs => exact ⟨rfl, trivial⟩
            case hk => rfl
            case h1 =>
              intro wq_4 kq_4
              refine WL.move rfl rfl (?_)
              refine WL.nil ?_
              exact WX.one ⟨rfl, by first | exact Chg.refl _ _ | assumption⟩
            apply DQ.step (E' := [(0, _)])
            case ho => rfl
            case hs => exact ⟨rfl, trivial⟩
            case hk => rfl
            case h1 =>
              intro wq_5 kq_5
              refine WL.move rfl rfl (?_)
              refine WL.nil ?_
              exact WX.one ⟨rfl, by first | exact Chg.refl _ _ | assumption⟩
            apply DQ.step (E' := [(8, _)])
            case ho => rfl
            case hs => exact ⟨rfl, trivial⟩
            case hk => rfl
            case h1 =>
              intro wq_6 kq_6
              refine WL.move rfl rfl (?_)
              refine WL.nil ?_
              exact WX.one ⟨rfl, by first | exact Chg.refl _ _ | assumption⟩
            apply DQ.step (E' := [(48, _), (49, _)])
            case ho => rfl
            case hs => exact ⟨rfl, rfl, trivial⟩
            case hk => rfl
            case h1 =>
              intro wq_7 kq_7
              have zs_kq_7 := kq_7.size
              replace hq := hq.chg kq_7 (by first | (intro x h1 h2; exact h2) | (intro x h1 h2; have h3 : _ = _ := h2; exfalso; omega) | (intro b h1 h2 h3; have h4 : _ = _ := h3; (try dsimp only at h2); exfalso; omega) | (intro h1; have h2 : _ = _ := h1; exfalso; omega) | (intros; exfalso; (try dsimp only at *); omega) | (intro b h1 h2 h3; exfalso; have h4 := h3.2; (try dsimp only at *); omega) | (intro h1; exfalso; have h4 := h1.2; (try dsimp only at *); omega))
              replace h := h.chg kq_7 (by first | (intro x h1 h2; exact h2) | (intro x h1 h2; have h3 : _ = _ := h2; exfalso; omega) | (intro b h1 h2 h3; have h4 : _ = _ := h3; (try dsimp only at h2); exfalso; omega) | (intro h1; have h2 : _ = _ := h1; exfalso; omega) | (intros; exfalso; (try dsimp only at *); omega) | (intro b h1 h2 h3; exfalso; have h4 := h3.2; (try dsimp only at *); omega) | (intro h1; exfalso; have h4 := h1.2; (try dsimp only at *); omega))
              replace hx := hx.chg kq_7 (by first | (intro x h1 h2; exact h2) | (intro x h1 h2; have h3 : _ = _ := h2; exfalso; omega) | (intro b h1 h2 h3; have h4 : _ = _ := h3; (try dsimp only at h2); exfalso; omega) | (intro h1; have h2 : _ = _ := h1; exfalso; omega) | (intros; exfalso; (try dsimp only at *); omega) | (intro b h1 h2 h3; exfalso; have h4 := h3.2; (try dsimp only at *); omega) | (intro h1; exfalso; have h4 := h1.2; (try dsimp only at *); omega))
              replace hw := hw.chg kq_7 (by first | (intro x h1 h2; exact h2) | (intro x h1 h2; have h3 : _ = _ := h2; exfalso; omega) | (intro b h1 h2 h3; have h4 : _ = _ := h3; (try dsimp only at h2); exfalso; omega) | (intro h1; have h2 : _ = _ := h1; exfalso; omega) | (intros; exfalso; (try dsimp only at *); omega) | (intro b h1 h2 h3; exfalso; have h4 := h3.2; (try dsimp only at *); omega) | (intro h1; exfalso; have h4 := h1.2; (try dsimp only at *); omega))
              have hO := h.outer
              rw [ho] at hO
              refine WL.indexC (e := erow) hO Try.underlying22 Try.sizeOf23 (by show some (Value.slice ao _ _) = _; rw [ho]) rfl ⟨hri, rfl⟩ rfl ?_
              refine WL.nil ?_
              exact WX.one ⟨rfl, by first | exact Chg.refl _ _ | assumption⟩
            apply DQ.step (E' := [(50, _)])
            case ho => rfl
            case hs => exact ⟨rfl, trivial⟩
            case hk => rfl
            case h1 =>
              intro wq_8 kq_8
              have zs_kq_8 := kq_8.size
              replace hq := hq.chg kq_8 (by first | (intro x h1 h2; exact h2) | (intro x h1 h2; have h3 : _ = _ := h2; exfalso; omega) | (intro b h1 h2 h3; have h4 : _ = _ := h3; (try dsimp only at h2); exfalso; omega) | (intro h1; have h2 : _ = _ := h1; exfalso; omega) | (intros; exfalso; (try dsimp only at *); omega) | (intro b h1 h2 h3; exfalso; have h4 := h3.2; (try dsimp only at *); omega) | (intro h1; exfalso; have h4 := h1.2; (try dsimp only at *); omega))
              replace h := h.chg kq_8 (by first | (intro x h1 h2; exact h2) | (intro x h1 h2; have h3 : _ = _ := h2; exfalso; omega) | (intro b h1 h2 h3; have h4 : _ = _ := h3; (try dsimp only at h2); exfalso; omega) | (intro h1; have h2 : _ = _ := h1; exfalso; omega) | (intros; exfalso; (try dsimp only at *); omega) | (intro b h1 h2 h3; exfalso; have h4 := h3.2; (try dsimp only at *); omega) | (intro h1; exfalso; have h4 := h1.2; (try dsimp only at *); omega))
              replace hx := hx.chg kq_8 (by first | (intro x h1 h2; exact h2) | (intro x h1 h2; have h3 : _ = _ := h2; exfalso; omega) | (intro b h1 h2 h3; have h4 : _ = _ := h3; (try dsimp only at h2); exfalso; omega) | (intro h1; have h2 : _ = _ := h1; exfalso; omega) | (intros; exfalso; (try dsimp only at *); omega) | (intro b h1 h2 h3; exfalso; have h4 := h3.2; (try dsimp only at *); omega) | (intro h1; exfalso; have h4 := h1.2; (try dsimp only at *); omega))
              replace hw := hw.chg kq_8 (by first | (intro x h1 h2; exact h2) | (intro x h1 h2; have h3 : _ = _ := h2; exfalso; omega) | (intro b h1 h2 h3; have h4 : _ = _ := h3; (try dsimp only at h2); exfalso; omega) | (intro h1; have h2 : _ = _ := h1; exfalso; omega) | (intros; exfalso; (try dsimp only at *); omega) | (intro b h1 h2 h3; exfalso; have h4 := h3.2; (try dsimp only at *); omega) | (intro h1; exfalso; have h4 := h1.2; (try dsimp only at *); omega))
              have hO := h.outer
              rw [ho] at hO
              refine WL.load Try.isAgg23 rfl ((hO.cellsAt hri) 0 _ rfl) rfl ?_
              refine WL.nil ?_
              exact WX.one ⟨rfl, by first | exact Chg.refl _ _ | assumption⟩
            apply DQ.step (E' := [(10, _)])
            case ho => rfl
            case hs => exact ⟨rfl, trivial⟩
            case hk => rfl
            case h1 =>
              intro wq_9 kq_9
              refine WL.move rfl rfl (?_)
              refine WL.nil ?_
              exact WX.one ⟨rfl, by first | exact Chg.refl _ _ | assumption⟩
            apply DQ.step (E' := [(51, _), (52, _)])
            case ho => rfl
            case hs => exact ⟨rfl, rfl, trivial⟩
            case hk => rfl
            case h1 =>
              intro wq_10 kq_10
              have zs_kq_10 := kq_10.size
              replace hq := hq.chg kq_10 (by first | (intro x h1 h2; exact h2) | (intro x h1 h2; have h3 : _ = _ := h2; exfalso; omega) | (intro b h1 h2 h3; have h4 : _ = _ := h3; (try dsimp only at h2); exfalso; omega) | (intro h1; have h2 : _ = _ := h1; exfalso; omega) | (intros; exfalso; (try dsimp only at *); omega) | (intro b h1 h2 h3; exfalso; have h4 := h3.2; (try dsimp only at *); omega) | (intro h1; exfalso; have h4 := h1.2; (try dsimp only at *); omega))
              replace h := h.chg kq_10 (by first | (intro x h1 h2; exact h2) | (intro x h1 h2; have h3 : _ = _ := h2; exfalso; omega) | (intro b h1 h2 h3; have h4 : _ = _ := h3; (try dsimp only at h2); exfalso; omega) | (intro h1; have h2 : _ = _ := h1; exfalso; omega) | (intros; exfalso; (try dsimp only at *); omega) | (intro b h1 h2 h3; exfalso; have h4 := h3.2; (try dsimp only at *); omega) | (intro h1; exfalso; have h4 := h1.2; (try dsimp only at *); omega))
              replace hx := hx.chg kq_10 (by first | (intro x h1 h2; exact h2) | (intro x h1 h2; have h3 : _ = _ := h2; exfalso; omega) | (intro b h1 h2 h3; have h4 : _ = _ := h3; (try dsimp only at h2); exfalso; omega) | (intro h1; have h2 : _ = _ := h1; exfalso; omega) | (intros; exfalso; (try dsimp only at *); omega) | (intro b h1 h2 h3; exfalso; have h4 := h3.2; (try dsimp only at *); omega) | (intro h1; exfalso; have h4 := h1.2; (try dsimp only at *); omega))
              replace hw := hw.chg kq_10 (by first | (intro x h1 h2; exact h2) | (intro x h1 h2; have h3 : _ = _ := h2; exfalso; omega) | (intro b h1 h2 h3; have h4 : _ = _ := h3; (try dsimp only at h2); exfalso; omega) | (intro h1; have h2 : _ = _ := h1; exfalso; omega) | (intros; exfalso; (try dsimp only at *); omega) | (intro b h1 h2 h3; exfalso; have h4 := h3.2; (try dsimp only at *); omega) | (intro h1; exfalso; have h4 := h1.2; (try dsimp only at *); omega))
              have hI := h.at hri
              rw [hio] at hI
              refine WL.indexC (e := eb) hI Try.underlying23 Try.sizeOf5 (by show some (Value.slice r.ao _ _) = _; rw [hio]) rfl ⟨ha, rfl⟩ rfl ?_
              refine WL.nil ?_
              exact WX.one ⟨rfl, by first | exact Chg.refl _ _ | assumption⟩
            apply DQ.step (E' := [(53, _)])
            case ho => rfl
            case hs => exact ⟨rfl, trivial⟩
            case hk => rfl
            case h1 =>
              intro wq_11 kq_11
              have zs_kq_11 := kq_11.size
              replace hq := hq.chg kq_11 (by first | (intro x h1 h2; exact h2) | (intro x h1 h2; have h3 : _ = _ := h2; exfalso; omega) | (intro b h1 h2 h3; have h4 : _ = _ := h3; (try dsimp only at h2); exfalso; omega) | (intro h1; have h2 : _ = _ := h1; exfalso; omega) | (intros; exfalso; (try dsimp only at *); omega) | (intro b h1 h2 h3; exfalso; have h4 := h3.2; (try dsimp only at *); omega) | (intro h1; exfalso; have h4 := h1.2; (try dsimp only at *); omega))
              replace h := h.chg kq_11 (by first | (intro x h1 h2; exact h2) | (intro x h1 h2; have h3 : _ = _ := h2; exfalso; omega) | (intro b h1 h2 h3; have h4 : _ = _ := h3; (try dsimp only at h2); exfalso; omega) | (intro h1; have h2 : _ = _ := h1; exfalso; omega) | (intros; exfalso; (try dsimp only at *); omega) | (intro b h1 h2 h3; exfalso; have h4 := h3.2; (try dsimp only at *); omega) | (intro h1; exfalso; have h4 := h1.2; (try dsimp only at *); omega))
              replace hx := hx.chg kq_11 (by first | (intro x h1 h2; exact h2) | (intro x h1 h2; have h3 : _ = _ := h2; exfalso; omega) | (intro b h1 h2 h3; have h4 : _ = _ := h3; (try dsimp only at h2); exfalso; omega) | (intro h1; have h2 : _ = _ := h1; exfalso; omega) | (intros; exfalso; (try dsimp only at *); omega) | (intro b h1 h2 h3; exfalso; have h4 := h3.2; (try dsimp only at *); omega) | (intro h1; exfalso; have h4 := h1.2; (try dsimp only at *); omega))
              replace hw := hw.chg kq_11 (by first | (intro x h1 h2; exact h2) | (intro x h1 h2; have h3 : _ = _ := h2; exfalso; omega) | (intro b h1 h2 h3; have h4 : _ = _ := h3; (try dsimp only at h2); exfalso; omega) | (intro h1; have h2 : _ = _ := h1; exfalso; omega) | (intros; exfalso; (try dsimp only at *); omega) | (intro b h1 h2 h3; exfalso; have h4 := h3.2; (try dsimp only at *); omega) | (intro h1; exfalso; have h4 := h1.2; (try dsimp only at *); omega))
              have hI := h.at hri
              rw [hio] at hI
              refine WL.load Try.isAgg5 rfl ((hI.cellsAt ha) 0 _ rfl) rfl ?_
              refine WL.nil ?_
              exact WX.one ⟨rfl, by first | exact Chg.refl _ _ | assumption⟩
            apply DQ.step (E' := [(1, _)])
            case ho => rfl
            case hs => exact ⟨rfl, trivial⟩
            case hk => rfl
            case h1 =>
              intro wq_12 kq_12
              refine WL.move rfl rfl (?_)
              refine WL.nil ?_
              exact WX.one ⟨rfl, by first | exact Chg.refl _ _ | assumption⟩
            apply DQ.step (E' := [(10, _)])
            case ho => rfl
            case hs => exact ⟨rfl, trivial⟩
            case hk => rfl
            case h1 =>
              intro wq_13 kq_13
              refine WL.move rfl rfl (?_)
              refine WL.nil ?_
              exact WX.one ⟨rfl, by first | exact Chg.refl _ _ | assumption⟩
            apply DQ.step (E' := [(55, _), (56, _)])
            case ho => rfl
            case hs => exact ⟨rfl, rfl, trivial⟩
            case hk => rfl
            case h1 =>
              intro wq_14 kq_14
              have zs_kq_14 := kq_14.size
              replace hq := hq.chg kq_14 (by first | (intro x h1 h2; exact h2) | (intro x h1 h2; have h3 : _ = _ := h2; exfalso; omega) | (intro b h1 h2 h3; have h4 : _ = _ := h3; (try dsimp only at h2); exfalso; omega) | (intro h1; have h2 : _ = _ := h1; exfalso; omega) | (intros; exfalso; (try dsimp only at *); omega) | (intro b h1 h2 h3; exfalso; have h4 := h3.2; (try dsimp only at *); omega) | (intro h1; exfalso; have h4 := h1.2; (try dsimp only at *); omega))
              replace h := h.chg kq_14 (by first | (intro x h1 h2; exact h2) | (intro x h1 h2; have h3 : _ = _ := h2; exfalso; omega) | (intro b h1 h2 h3; have h4 : _ = _ := h3; (try dsimp only at h2); exfalso; omega) | (intro h1; have h2 : _ = _ := h1; exfalso; omega) | (intros; exfalso; (try dsimp only at *); omega) | (intro b h1 h2 h3; exfalso; have h4 := h3.2; (try dsimp only at *); omega) | (intro h1; exfalso; have h4 := h1.2; (try dsimp only at *); omega))
              replace hx := hx.chg kq_14 (by first | (intro x h1 h2; exact h2) | (intro x h1 h2; have h3 : _ = _ := h2; exfalso; omega) | (intro b h1 h2 h3; have h4 : _ = _ := h3; (try dsimp only at h2); exfalso; omega) | (intro h1; have h2 : _ = _ := h1; exfalso; omega) | (intros; exfalso; (try dsimp only at *); omega) | (intro b h1 h2 h3; exfalso; have h4 := h3.2; (try dsimp only at *); omega) | (intro h1; exfalso; have h4 := h1.2; (try dsimp only at *); omega))
              replace hw := hw.chg kq_14 (by first | (intro x h1 h2; exact h2) | (intro x h1 h2; have h3 : _ = _ := h2; exfalso; omega) | (intro b h1 h2 h3; have h4 : _ = _ := h3; (try dsimp only at h2); exfalso; omega) | (intro h1; have h2 : _ = _ := h1; exfalso; omega) | (intros; exfalso; (try dsimp only at *); omega) | (intro b h1 h2 h3; exfalso; have h4 := h3.2; (try dsimp only at *); omega) | (intro h1; exfalso; have h4 := h1.2; (try dsimp only at *); omega))
              have hI := hx
              rw [hxo] at hI
              refine WL.indexC (e := eb) hI Try.underlying23 Try.sizeOf5 (by show some (Value.slice ax _ _) = _; rw [hxo]) rfl ⟨hb, rfl⟩ rfl ?_
              refine WL.nil ?_
              exact WX.one ⟨rfl, by first | exact Chg.refl _ _ | assumption⟩
            apply DQ.step (E' := [(57, _)])
            case ho => rfl
            case hs => exact ⟨rfl, trivial⟩
            case hk => rfl
            case h1 =>
              intro wq_15 kq_15
              have zs_kq_15 := kq_15.size
              replace hq := hq.chg kq_15 (by first | (intro x h1 h2; exact h2) | (intro x h1 h2; have h3 : _ = _ := h2; exfalso; omega) | (intro b h1 h2 h3; have h4 : _ = _ := h3; (try dsimp only at h2); exfalso; omega) | (intro h1; have h2 : _ = _ := h1; exfalso; omega) | (intros; exfalso; (try dsimp only at *); omega) | (intro b h1 h2 h3; exfalso; have h4 := h3.2; (try dsimp only at *); omega) | (intro h1; exfalso; have h4 := h1.2; (try dsimp only at *); omega))
              replace h := h.chg kq_15 (by first | (intro x h1 h2; exact h2) | (intro x h1 h2; have h3 : _ = _ := h2; exfalso; omega) | (intro b h1 h2 h3; have h4 : _ = _ := h3; (try dsimp only at h2); exfalso; omega) | (intro h1; have h2 : _ = _ := h1; exfalso; omega) | (intros; exfalso; (try dsimp only at *); omega) | (intro b h1 h2 h3; exfalso; have h4 := h3.2; (try dsimp only at *); omega) | (intro h1; exfalso; have h4 := h1.2; (try dsimp only at *); omega))
              replace hx := hx.chg kq_15 (by first | (intro x h1 h2; exact h2) | (intro x h1 h2; have h3 : _ = _ := h2; exfalso; omega) | (intro b h1 h2 h3; have h4 : _ = _ := h3; (try dsimp only at h2); exfalso; omega) | (intro h1; have h2 : _ = _ := h1; exfalso; omega) | (intros; exfalso; (try dsimp only at *); omega) | (intro b h1 h2 h3; exfalso; have h4 := h3.2; (try dsimp only at *); omega) | (intro h1; exfalso; have h4 := h1.2; (try dsimp only at *); omega))
              replace hw := hw.chg kq_15 (by first | (intro x h1 h2; exact h2) | (intro x h1 h2; have h3 : _ = _ := h2; exfalso; omega) | (intro b h1 h2 h3; have h4 : _ = _ := h3; (try dsimp only at h2); exfalso; omega) | (intro h1; have h2 : _ = _ := h1; exfalso; omega) | (intros; exfalso; (try dsimp only at *); omega) | (intro b h1 h2 h3; exfalso; have h4 := h3.2; (try dsimp only at *); omega) | (intro h1; exfalso; have h4 := h1.2; (try dsimp only at *); omega))
              have hI := hx
              rw [hxo] at hI
              refine WL.load Try.isAgg5 rfl ((hI.cellsAt hb) 0 _ rfl) rfl ?_
              refine WL.nil ?_
              exact WX.one ⟨rfl, by first | exact Chg.refl _ _ | assumption⟩
            refine DQ.done (fun hd_2 => ?_)
            refine DL.step [(47, _), (54, _), (58, _)] rfl ⟨rfl, rfl, rfl, trivial⟩ rfl (fun wq_16 kq_16 => ?_)
            have zs_kq_16 := kq_16.size
            replace hq := hq.pure kq_16
            replace hF := hF.pure kq_16
            replace h := h.pure kq_16
            replace hx := hx.pure kq_16
            replace hw := hw.pure kq_16
            replace hd_2 := hd_2.pure kq_16
            refine WL.call eg_15 rfl rfl (mul_calls hF a b) ?_
            rintro v w3 ⟨rfl, hF3, k3⟩
            have zs_k3 := k3.size
            replace hq := hq.chg k3 (by first | (intro x h1 h2; exact h2) | (intro x h1 h2; have h3 : _ = _ := h2; exfalso; omega) | (intro b h1 h2 h3; have h4 : _ = _ := h3; (try dsimp only at h2); exfalso; omega) | (intro h1; have h2 : _ = _ := h1; exfalso; omega) | (intros; exfalso; (try dsimp only at *); omega) | (intro b h1 h2 h3; exfalso; have h4 := h3.2; (try dsimp only at *); omega) | (intro h1; exfalso; have h4 := h1.2; (try dsimp only at *); omega))
            replace h := h.chg k3 (by first | (intro x h1 h2; exact h2) | (intro x h1 h2; have h3 : _ = _ := h2; exfalso; omega) | (intro b h1 h2 h3; have h4 : _ = _ := h3; (try dsimp only at h2); exfalso; omega) | (intro h1; have h2 : _ = _ := h1; exfalso; omega) | (intros; exfalso; (try dsimp only at *); omega) | (intro b h1 h2 h3; exfalso; have h4 := h3.2; (try dsimp only at *); omega) | (intro h1; exfalso; have h4 := h1.2; (try dsimp only at *); omega))
            replace hx := hx.chg k3 (by first | (intro x h1 h2; exact h2) | (intro x h1 h2; have h3 : _ = _ := h2; exfalso; omega) | (intro b h1 h2 h3; have h4 : _ = _ := h3; (try dsimp only at h2); exfalso; omega) | (intro h1; have h2 : _ = _ := h1; exfalso; omega) | (intros; exfalso; (try dsimp only at *); omega) | (intro b h1 h2 h3; exfalso; have h4 := h3.2; (try dsimp only at *); omega) | (intro h1; exfalso; have h4 := h1.2; (try dsimp only at *); omega))
            replace hw := hw.chg k3 (by first | (intro x h1 h2; exact h2) | (intro x h1 h2; have h3 : _ = _ := h2; exfalso; omega) | (intro b h1 h2 h3; have h4 : _ = _ := h3; (try dsimp only at h2); exfalso; omega) | (intro h1; have h2 : _ = _ := h1; exfalso; omega) | (intros; exfalso; (try dsimp only at *); omega) | (intro b h1 h2 h3; exfalso; have h4 := h3.2; (try dsimp only at *); omega) | (intro h1; exfalso; have h4 := h1.2; (try dsimp only at *); omega))
            replace hd_2 := hd_2.chg k3 (by first | (intro x h1 h2; exact h2) | (intro x h1 h2; have h3 : _ = _ := h2; exfalso; omega) | (intro b h1 h2 h3; have h4 : _ = _ := h3; (try dsimp only at h2); exfalso; omega) | (intro h1; have h2 : _ = _ := h1; exfalso; omega) | (intros; exfalso; (try dsimp only at *); omega) | (intro b h1 h2 h3; exfalso; have h4 := h3.2; (try dsimp only at *); omega) | (intro h1; exfalso; have h4 := h1.2; (try dsimp only at *); omega))
            refine WL.nil ?_
            refine WX.one ⟨hd_2, ?_⟩
            refine DL.step [(46, _), (59, _)] rfl ⟨rfl, rfl, trivial⟩ rfl (fun wq_17 kq_17 => ?_)
            have zs_kq_17 := kq_17.size
            replace hq := hq.pure kq_17
            replace h := h.pure kq_17
            replace hx := hx.pure kq_17
            replace hw := hw.pure kq_17
            replace hd_2 := hd_2.pure kq_17
            replace hF3 := hF3.pure kq_17
            refine WL.num rfl rfl (n_xor8 _ _ _ _) rfl (?_)
            refine WL.nil ?_
            refine WX.one ⟨hd_2, ?_⟩
            refine DL.step [(60, _)] rfl ⟨rfl, trivial⟩ rfl (fun wq_18 kq_18 => ?_)
            have zs_kq_18 := kq_18.size
            replace hq := hq.pure kq_18
            replace h := h.pure kq_18
            replace hx := hx.pure kq_18
            replace hw := hw.pure kq_18
            replace hd_2 := hd_2.pure kq_18
            replace hF3 := hF3.pure kq_18
            refine WL.assign rfl rfl (?_)
            refine WL.nil ?_
            refine WX.one ⟨hd_2, ?_⟩
            refine DL.done (fun we_19 ke_19 => ?_)
            have zs_ke_19 := ke_19.size
            replace hq := hq.pure ke_19
            replace h := h.pure ke_19
            replace hx := hx.pure ke_19
            replace hw := hw.pure ke_19
            replace hd_2 := hd_2.pure ke_19
            replace hF3 := hF3.pure ke_19
            refine WX.block_normal (WX.then_normal (WC.region (WL.move rfl rfl (WL.add64 rfl rfl (by first | omega | (constructor <;> omega)) rfl (WL.assign rfl rfl (WL.nil (?_)))))))
            first
              | exact WX.loop_next (k + 1) ⟨rfl, rfl, rfl, rfl, rfl, rfl, by rw [sumF, hfa, hxb]; rfl, rfl, trivial⟩ ⟨by omega, hq, hF3, h, hx, hw⟩ (by omega)
              | exact WX.loop_next (i + 1, a4, c4, rgt ++ [sumF rs.length (fun k => mul (fn (mx rs) i k) (xs.getD k 0))]) ⟨rfl, rfl, rfl, rfl, rfl, rfl, trivial⟩ ⟨⟨by show i + 1 ≤ _; omega, .inr ⟨hxl, hn8⟩⟩, ⟨by show (rgt ++ [_]).length = i + 1; simp [hql], fun j hj => (by
                  show (rgt ++ [_]).getD j 0 = _
                  rw [List.getD_eq_getElem?_getD]
                  rcases Nat.lt_or_ge j i with h1 | h1
                  ·
                    rw [List.getElem?_append_left (by omega), ← List.getD_eq_getElem?_getD]
                    exact hqv j h1
                  ·
                    have h2 : j < i + 1 := hj
                    rw [List.getElem?_append_right (by omega), show j - rgt.length = 0 by omega, show j = i by omega]
                    rfl), fun j r' hj hr' => (by
                  rcases Nat.lt_or_ge j i with h1 | h1
                  ·
                    exact hqr j r' h1 hr'
                  ·
                    have h2 : j < i + 1 := hj
                    rw [show j = i by omega, hri] at hr'
                    injection hr' with hr'
                    rw [← hr']; exact hrl)⟩, hq4, hF, h, hx, hw⟩ (by show rs.length - (i + 1) < rs.length - i; omega)
          ·
            refine WL.nil (WX.then_normal (WC.cond_false rfl (WC.exit (WX.then_exit (WX.then_exit (WX.block_here (WX.then_normal (?_))))))))
            refine WC.region (WL.move rfl rfl (WL.move rfl rfl (?_)))
            have hkn : k = rs.length := by omega
            subst hkn
            refine WL.build (e := eb) [sumF rs.length (fun k => mul (fn (mx rs) i k) (xs.getD k 0))] Try.underlying23 Try.sizeOf5 Try.zeroValue5 rfl rfl rfl (by first | (simp [Value.cells]; done) | (simp [Value.cells] <;> rfl) | (simp [Value.cells, eb, ei, es, ebool, e32, e64]; done)) (by decide) rfl ?_
            intro a_qn w_qn qn l_qn z_qn k_qn
            have zs_k_qn := k_qn.size
            replace hq := hq.pure k_qn
            replace hF := hF.pure k_qn
            replace h := h.pure k_qn
            replace hx := hx.pure k_qn
            replace hw := hw.pure k_qn
            refine WL.append (e := eb) (S := fun b => gf < b) info_5 rfl Try.underlying23 rfl rfl hq (qn.rsl.src Try.underlying23) (by show (rgt.length + 1) * 1 ≤ _ ∧ rgt.length + 1 ≤ _; constructor <;> omega) (fun b hb => by have := hF.lt; omega) rfl ?_
            intro a4 c4 w4 hq4 g4 nn4
            have k4 := g4.chg
            have zs_k4 := k4.size
            replace hF := hF.chg k4 (by first | (intro x h1 h2; exact h2) | (intro x h1 h2; have h3 : _ = _ := h2; exfalso; omega) | (intro b h1 h2 h3; have h4 : _ = _ := h3; (try dsimp only at h2); exfalso; omega) | (intro h1; have h2 : _ = _ := h1; exfalso; omega) | (intros; exfalso; (try dsimp only at *); omega) | (intro b h1 h2 h3; exfalso; have h4 := h3.2; (try dsimp only at *); omega) | (intro h1; exfalso; have h4 := h1.2; (try dsimp only at *); omega))
            replace h := h.chg k4 (by first | (intro x h1 h2; exact h2) | (intro x h1 h2; have h3 : _ = _ := h2; exfalso; omega) | (intro b h1 h2 h3; have h4 : _ = _ := h3; (try dsimp only at h2); exfalso; omega) | (intro h1; have h2 : _ = _ := h1; exfalso; omega) | (intros; exfalso; (try dsimp only at *); omega) | (intro b h1 h2 h3; exfalso; have h4 := h3.2; (try dsimp only at *); omega) | (intro h1; exfalso; have h4 := h1.2; (try dsimp only at *); omega))
            replace hx := hx.chg k4 (by first | (intro x h1 h2; exact h2) | (intro x h1 h2; have h3 : _ = _ := h2; exfalso; omega) | (intro b h1 h2 h3; have h4 : _ = _ := h3; (try dsimp only at h2); exfalso; omega) | (intro h1; have h2 : _ = _ := h1; exfalso; omega) | (intros; exfalso; (try dsimp only at *); omega) | (intro b h1 h2 h3; exfalso; have h4 := h3.2; (try dsimp only at *); omega) | (intro h1; exfalso; have h4 := h1.2; (try dsimp only at *); omega))
            replace hw := hw.chg k4 (by first | (intro x h1 h2; exact h2) | (intro x h1 h2; have h3 : _ = _ := h2; exfalso; omega) | (intro b h1 h2 h3; have h4 : _ = _ := h3; (try dsimp only at h2); exfalso; omega) | (intro h1; have h2 : _ = _ := h1; exfalso; omega) | (intros; exfalso; (try dsimp only at *); omega) | (intro b h1 h2 h3; exfalso; have h4 := h3.2; (try dsimp only at *); omega) | (intro h1; exfalso; have h4 := h1.2; (try dsimp only at *); omega))
            refine WL.assign rfl rfl (WL.nil (WX.block_normal (WX.then_normal (WC.region (WL.move rfl rfl (WL.add64 rfl rfl (by first | omega | (constructor <;> omega)) rfl (WL.assign rfl rfl (?_))))))))
            refine WL.nil (?_)
            first
              | exact WX.loop_next (k + 1) ⟨rfl, rfl, rfl, rfl, rfl, rfl, by rw [sumF, hfa, hxb]; rfl, rfl, trivial⟩ ⟨by omega, hq, hF3, h, hx, hw⟩ (by omega)
              | exact WX.loop_next (i + 1, a4, c4, rgt ++ [sumF rs.length (fun k => mul (fn (mx rs) i k) (xs.getD k 0))]) ⟨rfl, rfl, rfl, rfl, rfl, rfl, trivial⟩ ⟨⟨by show i + 1 ≤ _; omega, .inr ⟨hxl, hn8⟩⟩, ⟨by show (rgt ++ [_]).length = i + 1; simp [hql], fun j hj => (by
                  show (rgt ++ [_]).getD j 0 = _
                  rw [List.getD_eq_getElem?_getD]
                  rcases Nat.lt_or_ge j i with h1 | h1
                  ·
                    rw [List.getElem?_append_left (by omega), ← List.getD_eq_getElem?_getD]
                    exact hqv j h1
                  ·
                    have h2 : j < i + 1 := hj
                    rw [List.getElem?_append_right (by omega), show j - rgt.length = 0 by omega, show j = i by omega]
                    rfl), fun j r' hj hr' => (by
                  rcases Nat.lt_or_ge j i with h1 | h1
                  ·
                    exact hqr j r' h1 hr'
                  ·
                    have h2 : j < i + 1 := hj
                    rw [show j = i by omega, hri] at hr'
                    injection hr' with hr'
                    rw [← hr']; exact hrl)⟩, hq4, hF, h, hx, hw⟩ (by show rs.length - (i + 1) < rs.length - i; omega)
  ·
    refine WL.nil (WX.then_normal (WC.cond_false rfl (WC.exit (WX.then_exit (WX.then_exit (WX.block_here (WX.then_normal (?_))))))))
    refine WC.seq (WC.region (WL.move rfl rfl (WL.move rfl rfl (WL.move rfl rfl (?_)))))
    have hin : i = rs.length := by omega
    subst hin
    have hshape : 1 ≤ rs.length → ShapeOk (mx rs) rgt := fun h1 => ⟨by rw [hml]; omega, by rw [hml]; exact hql, fun z hz => by
      obtain ⟨j, hj, rfl⟩ := List.getElem_of_mem hz
      have hj2 : j < rs.length := by rw [← hml]; exact hj
      rw [hml, ← hqr j _ hj2 (List.getElem?_eq_getElem hj2)]
      simp [mx]⟩
    refine WL.call eg_14 rfl rfl (Solve_calls hF (h.mono (fun b hb => by omega)) (hq.rsl.mono (fun b hb => by omega)) hl1 (by omega)) ?_
    rintro v w5 ⟨⟨ay, cy, out, e, rfl, hS, hY⟩, hF5, k5⟩
    have zk5 := k5.size
    have zs_k5 := k5.size
    replace hq := hq.chg k5 (by first | (intro x h1 h2; exact h2) | (intro x h1 h2; have h3 : _ = _ := h2; exfalso; omega) | (intro b h1 h2 h3; have h4 : _ = _ := h3; (try dsimp only at h2); exfalso; omega) | (intro h1; have h2 : _ = _ := h1; exfalso; omega) | (intros; exfalso; (try dsimp only at *); omega) | (intro b h1 h2 h3; exfalso; have h4 := h3.2; (try dsimp only at *); omega) | (intro h1; exfalso; have h4 := h1.2; (try dsimp only at *); omega))
    replace h := h.chg k5 (by first | (intro x h1 h2; exact h2) | (intro x h1 h2; have h3 : _ = _ := h2; exfalso; omega) | (intro b h1 h2 h3; have h4 : _ = _ := h3; (try dsimp only at h2); exfalso; omega) | (intro h1; have h2 : _ = _ := h1; exfalso; omega) | (intros; exfalso; (try dsimp only at *); omega) | (intro b h1 h2 h3; exfalso; have h4 := h3.2; (try dsimp only at *); omega) | (intro h1; exfalso; have h4 := h1.2; (try dsimp only at *); omega))
    replace hx := hx.chg k5 (by first | (intro x h1 h2; exact h2) | (intro x h1 h2; have h3 : _ = _ := h2; exfalso; omega) | (intro b h1 h2 h3; have h4 : _ = _ := h3; (try dsimp only at h2); exfalso; omega) | (intro h1; have h2 : _ = _ := h1; exfalso; omega) | (intros; exfalso; (try dsimp only at *); omega) | (intro b h1 h2 h3; exfalso; have h4 := h3.2; (try dsimp only at *); omega) | (intro h1; exfalso; have h4 := h1.2; (try dsimp only at *); omega))
    replace hw := hw.chg k5 (by first | (intro x h1 h2; exact h2) | (intro x h1 h2; have h3 : _ = _ := h2; exfalso; omega) | (intro b h1 h2 h3; have h4 : _ = _ := h3; (try dsimp only at h2); exfalso; omega) | (intro h1; have h2 : _ = _ := h1; exfalso; omega) | (intros; exfalso; (try dsimp only at *); omega) | (intro b h1 h2 h3; exfalso; have h4 := h3.2; (try dsimp only at *); omega) | (intro h1; exfalso; have h4 := h1.2; (try dsimp only at *); omega))
    rcases hS with ⟨hns, rfl, rfl⟩ | ⟨hok, rfl, hol, hsol⟩ | ⟨hok, rfl, rfl, hker⟩
    ·
      have hn0 : rs.length = 0 := by
        rcases Nat.eq_zero_or_pos rs.length with h1 | h1
        ·
          exact h1
        ·
          exact absurd (hshape h1) hns
      refine WL.move rfl rfl (WL.extract rfl rfl rfl (WL.extract rfl rfl rfl (WL.assign rfl rfl (WL.assign rfl rfl (WL.nil (WX.then_normal (WC.seq (?_))))))))
      refine WC.seq (WC.region (WL.move rfl rfl (?_)))
      refine WL.eqlT rfl rfl rfl (by first | rfl | omega | decide) ?_
      refine WL.nil (WX.then_normal (WC.cond_true rfl (WC.seq (WC.region (WL.move rfl rfl (?_))))))
      refine WL.eqlT rfl rfl rfl (by first | rfl | omega | decide) ?_
      refine WL.assign rfl rfl (WL.nil (WX.then_normal (WC.ret (WX.then_ret (?_)))))
      refine WX.ret1 (.inl rfl) Try.results4 rfl ?_
      exact ⟨_, rfl, rfl, hw⟩
    ·
      have hn1 : 1 ≤ rs.length := by have := hok.1; rw [hml] at this; omega
      have heq : out = xs := SolR.holds (.inr (.inl ⟨hok, rfl, hol, hsol⟩)) (by rw [hml]; omega) (fun i hi => by rw [hml] at hi ⊢; exact (hqv i hi).symm)
      refine WL.move rfl rfl (WL.extract rfl rfl rfl (WL.extract rfl rfl rfl (WL.assign rfl rfl (WL.assign rfl rfl (WL.nil (WX.then_normal (WC.seq (?_))))))))
      refine WC.seq (WC.region (WL.move rfl rfl (?_)))
      refine WL.eqlF rfl rfl rfl (by first | rfl | omega | decide) ?_
      refine WL.nil (WX.then_normal (WC.cond_false rfl (WC.skip (WX.then_normal (WC.seq (WC.seq (WC.region (?_))))))))
      refine WL.move rfl rfl (?_)
      refine WL.eqlT rfl rfl rfl (by first | rfl | omega | decide) ?_
      refine WL.nil (WX.then_normal (WC.cond_true rfl (WC.seq (WC.region (WL.move rfl rfl (?_))))))
      refine WL.toStr Try.underlying23 Try.underlying5 Try.underlying9 hY.rsl rfl rfl ?_
      refine WL.move rfl rfl (?_)
      refine WL.toStr Try.underlying23 Try.underlying5 Try.underlying9 hx rfl rfl ?_
      refine WL.seql rfl rfl rfl ?_
      refine WL.assign rfl rfl (WL.nil (WX.then_normal (WC.ret (WX.then_ret (?_)))))
      refine WX.ret1 (.inl rfl) Try.results4 rfl ?_
      refine ⟨_, rfl, ?_, hw⟩
      rw [decide_eq_true (bytes_eq.2 heq)]
    ·
      have hn1 : 1 ≤ rs.length := by have := hok.1; rw [hml] at this; omega
      have hS7 : SolR (mx rs) rgt [] 7 := .inr (.inr ⟨hok, rfl, rfl, hker⟩)
      have hok2 : ShapeOk (mx rs) (List.replicate rs.length 0) := ⟨hok.1, by rw [hml, List.length_replicate], hok.2.2⟩
      refine WL.move rfl rfl (WL.extract rfl rfl rfl (WL.extract rfl rfl rfl (WL.assign rfl rfl (WL.assign rfl rfl (WL.nil (WX.then_normal (WC.seq (?_))))))))
      refine WC.seq (WC.region (WL.move rfl rfl (?_)))
      refine WL.eqlF rfl rfl rfl (by first | rfl | omega | decide) ?_
      refine WL.nil (WX.then_normal (WC.cond_false rfl (WC.skip (WX.then_normal (WC.seq (WC.seq (WC.region (?_))))))))
      refine WL.move rfl rfl (?_)
      refine WL.eqlF rfl rfl rfl (by first | rfl | omega | decide) ?_
      refine WL.nil (WX.then_normal (WC.cond_false rfl (WC.skip (WX.then_normal (WC.seq (WC.seq (WC.region (?_))))))))
      refine WL.move rfl rfl (?_)
      refine WL.neqF rfl rfl rfl (by first | rfl | omega | decide) ?_
      refine WL.move rfl rfl (WL.want rfl rfl rfl (WL.move rfl rfl (WL.want rfl rfl rfl (WL.len Try.underlying23 rfl rfl (WL.want rfl rfl rfl (?_))))))
      refine WL.neqF rfl rfl rfl (by first | rfl | omega | decide) ?_
      refine WL.pickF rfl rfl rfl (WL.nil (WX.then_normal (WC.cond_false rfl (WC.skip (WX.then_normal (WC.seq (WC.region (?_))))))))
      refine WL.move rfl rfl (WL.move rfl rfl (WL.move rfl rfl (?_)))
      refine WL.make (e := eb) (0 : UInt8) rs.length rs.length Try.underlying23 info_5 rfl rfl rfl ⟨rfl, rfl, Nat.le_refl _⟩ (by constructor <;> omega) rfl ?_
      intro g6 w6 hO6 k6 z6 e6
      have zs_k6 := k6.size
      replace hq := hq.pure k6
      replace h := h.pure k6
      replace hx := hx.pure k6
      replace hw := hw.pure k6
      replace hF5 := hF5.pure k6
      replace hY := hY.pure k6
      have lgf5 := hF5.lt
      refine WL.call eg_14 rfl rfl (Solve_calls hF5 (h.mono (fun b hb => by omega)) (hO6.rsl.mono (S' := fun b => b ≠ gf) (fun b hb => by omega)) hl1 (by rw [List.length_replicate]; omega)) ?_
      rintro v w7 ⟨⟨ay2, cy2, out2, e2, rfl, hS2, hY2⟩, hF7, k7⟩
      have zk7 := k7.size
      obtain ⟨rfl, rfl⟩ := SolR.miss2 hS7 hS2 hok2
      replace hw := hw.chg k7 (fun x h1 h2 => by have h3 : x = gf := h2; omega)
      refine WL.move rfl rfl (WL.extract rfl rfl rfl (WL.extract rfl rfl rfl (WL.assign rfl rfl (WL.assign rfl rfl (WL.nil (WX.then_normal (WC.seq (?_))))))))
      refine WC.region (WL.move rfl rfl (?_))
      refine WL.eqlT rfl rfl rfl (by first | rfl | omega | decide) ?_
      refine WL.move rfl rfl (WL.want rfl rfl rfl (WL.move rfl rfl (WL.want rfl rfl rfl (WL.len Try.underlying23 rfl rfl (WL.want rfl rfl rfl (?_))))))
      refine WL.eqlT rfl rfl rfl (by first | rfl | omega | decide) ?_
      refine WL.pickT rfl rfl rfl (WL.assign rfl rfl (WL.nil (WX.then_normal (WC.ret (?_)))))
      refine WX.ret1 (.inl rfl) Try.results4 rfl ?_
      exact ⟨_, rfl, rfl, hw⟩
end Go.Proofs.Ytjdbjdgobhjbkaa
namespace Go.Proofs.Ytjdbjdgobhjbkaa
open Go.RowKit Go.HL

theorem wt_at {i r : Nat} (h : r < 3) : [wtq 0 i, wtq 1 i, wtq 2 i][r]? = some (wtq r i) := by
  have h3 : r = 0 ∨ r = 1 ∨ r = 2 := by omega
  rcases h3 with rfl | rfl | rfl <;> rfl
set_option maxHeartbeats 4000000 in
theorem add_calls {w : World} {gf go n : Nat} {gs : List Nat} {ys : List (List UInt8)} {ac : Option Addr} {cc : Nat} {col : List UInt8} (hF : Fld w gf) (hO : OR w 23 5 go 3 gs n ys []) (hg3 : gs.length = 3) (hys : ∀ y ∈ ys, y.length = n) (hr : RSl (fun b => b < gf) w eb ac cc col) (hcl : col.length = n) (hgg : gf < go) (i : Nat) (hn : n ≤ 4096) :
    Calls Try.prog 51 [.pointer (some ⟨gf, 0, none⟩), .slice (some ⟨go, 0, none⟩) 3 3, vi i, .slice ac col.length cc].toArray w (Ret fun v w' => v = .tuple #[] ∧ Blk w' gf 65 FR ∧ OR w' 23 5 go 3 gs n (updR ys col i 3) [] ∧ Chg (fun x => gf ≤ x) w w') := by
  have hw := Chg.refl (fun x => gf ≤ x) w
  have hy3 : ys.length = 3 := by rw [← hO.len, hg3]
  have lgf := hF.lt
  have lgo := hO.lto
  have lgs : ∀ (j g : Nat), gs[j]? = some g → g < w.heap.size := fun j g h => hO.lt h
  refine Calls.of_WC Try.func51 rfl Try.ntmps51 (by simp) ?_
  refine WC.seq (WC.region (WL.move rfl rfl (WL.move rfl rfl (?_))))
  refine WL.call eg_50 rfl rfl (weights_calls hF i) ?_
  rintro v w1 ⟨rfl, hR, k⟩
  have zs_k := k.size
  replace hr := hr.chg k (by first | (intro x h1 h2; exact h2) | (intro x h0 h1 h2; exact hS x h1 h2) | (intro x h0 h1 h2; have h3 : _ = _ := h2; subst h3; exact hSR h1.1) | (intro x h1 h2; have h3 : _ = _ := h2; subst h3; assumption) | (intro x h1 h2; have h3 : _ = _ := h2; exfalso; omega) | (intro b h1 h2 h3; have h4 : _ = _ := h3; (try dsimp only at h2); exfalso; omega) | (intro h1; have h2 : _ = _ := h1; exfalso; omega) | (intro h1; have h2 : _ ≤ _ := h1; exfalso; omega) | (intros; exfalso; (try dsimp only at *); omega) | (intro b h1 h2 h3; exfalso; have h4 := h3.2; (try dsimp only at *); omega) | (intro h1; exfalso; have h4 := h1.2; (try dsimp only at *); omega) | (intro x h1 h2; exfalso; have h4 := h2.2; (try dsimp only at *); omega) | (intro x h1 h2; exact ⟨_, rfl, h2⟩) | (intro x h1 h2; have h4 := h2.1; have h5 := h2.2; exfalso; omega) | (intro x h1 h2; exact h2.1) | (intro x h1 h2; rcases h2.1 with h3 | h3; exact h3; exfalso; omega) | (intro x h1 h2; rcases h2 with h3 | h3; exact h3; exfalso; omega))
  replace hO := hO.chg k ⟨by omega, fun j g hg => by have := hO.above j g hg; omega⟩
  replace hw := hw.chg k (fun x _ h => by omega)
  refine WL.alloc Try.zeroValue84 rfl ?_
  intro g_1 w_1 hge_1 hlt_1 hb_1 k_1
  have zs_k_1 := k_1.size
  replace hr := hr.pure k_1
  replace hR := hR.pure k_1
  replace hw := hw.pure k_1
  refine WL.stores Try.sizeOf84 hb_1 rfl rfl (by first | (simp; done) | (simp; omega) | rfl) (by first | exact Enc.one _ _ | (intro u hu; obtain ⟨x, _, rfl⟩ := List.mem_map.1 hu; rfl) | (simp [Value.oneCell']; done) | (simp [Value.oneCell', Value.cells]; done)) (by first | (simp; done) | (simp; omega) | (simp [Value.cells]; done) | (simp [Value.cells]; omega) | exact Nat.le_of_ble_eq_true rfl) rfl ?_
  intro w_2 hs_2 hn_2 k_2
  have zs_k_2 := k_2.size
  replace hr := hr.chg k_2 (by first | (intro x h1 h2; exact h2) | (intro x h0 h1 h2; exact hS x h1 h2) | (intro x h0 h1 h2; have h3 : _ = _ := h2; subst h3; exact hSR h1.1) | (intro x h1 h2; have h3 : _ = _ := h2; subst h3; assumption) | (intro x h1 h2; have h3 : _ = _ := h2; exfalso; omega) | (intro b h1 h2 h3; have h4 : _ = _ := h3; (try dsimp only at h2); exfalso; omega) | (intro h1; have h2 : _ = _ := h1; exfalso; omega) | (intro h1; have h2 : _ ≤ _ := h1; exfalso; omega) | (intros; exfalso; (try dsimp only at *); omega) | (intro b h1 h2 h3; exfalso; have h4 := h3.2; (try dsimp only at *); omega) | (intro h1; exfalso; have h4 := h1.2; (try dsimp only at *); omega) | (intro x h1 h2; exfalso; have h4 := h2.2; (try dsimp only at *); omega) | (intro x h1 h2; exact ⟨_, rfl, h2⟩) | (intro x h1 h2; have h4 := h2.1; have h5 := h2.2; exfalso; omega) | (intro x h1 h2; exact h2.1) | (intro x h1 h2; rcases h2.1 with h3 | h3; exact h3; exfalso; omega) | (intro x h1 h2; rcases h2 with h3 | h3; exact h3; exfalso; omega))
  replace hR := hR.chg k_2 (by first | (intro x h1 h2; exact h2) | (intro x h0 h1 h2; exact hS x h1 h2) | (intro x h0 h1 h2; have h3 : _ = _ := h2; subst h3; exact hSR h1.1) | (intro x h1 h2; have h3 : _ = _ := h2; subst h3; assumption) | (intro x h1 h2; have h3 : _ = _ := h2; exfalso; omega) | (intro b h1 h2 h3; have h4 : _ = _ := h3; (try dsimp only at h2); exfalso; omega) | (intro h1; have h2 : _ = _ := h1; exfalso; omega) | (intro h1; have h2 : _ ≤ _ := h1; exfalso; omega) | (intros; exfalso; (try dsimp only at *); omega) | (intro b h1 h2 h3; exfalso; have h4 := h3.2; (try dsimp only at *); omega) | (intro h1; exfalso; have h4 := h1.2; (try dsimp only at *); omega) | (intro x h1 h2; exfalso; have h4 := h2.2; (try dsimp only at *); omega) | (intro x h1 h2; exact ⟨_, rfl, h2⟩) | (intro x h1 h2; have h4 := h2.1; have h5 := h2.2; exfalso; omega) | (intro x h1 h2; exact h2.1) | (intro x h1 h2; rcases h2.1 with h3 | h3; exact h3; exfalso; omega) | (intro x h1 h2; rcases h2 with h3 | h3; exact h3; exfalso; omega))
  replace hw := hw.chg k_2 (by first | (intro x h1 h2; exact h2) | (intro x h0 h1 h2; exact hS x h1 h2) | (intro x h0 h1 h2; have h3 : _ = _ := h2; subst h3; exact hSR h1.1) | (intro x h1 h2; have h3 : _ = _ := h2; subst h3; assumption) | (intro x h1 h2; have h3 : _ = _ := h2; exfalso; omega) | (intro b h1 h2 h3; have h4 : _ = _ := h3; (try dsimp only at h2); exfalso; omega) | (intro h1; have h2 : _ = _ := h1; exfalso; omega) | (intro h1; have h2 : _ ≤ _ := h1; exfalso; omega) | (intros; exfalso; (try dsimp only at *); omega) | (intro b h1 h2 h3; exfalso; have h4 := h3.2; (try dsimp only at *); omega) | (intro h1; exfalso; have h4 := h1.2; (try dsimp only at *); omega) | (intro x h1 h2; exfalso; have h4 := h2.2; (try dsimp only at *); omega) | (intro x h1 h2; exact ⟨_, rfl, h2⟩) | (intro x h1 h2; have h4 := h2.1; have h5 := h2.2; exfalso; omega) | (intro x h1 h2; exact h2.1) | (intro x h1 h2; rcases h2.1 with h3 | h3; exact h3; exfalso; omega) | (intro x h1 h2; rcases h2 with h3 | h3; exact h3; exfalso; omega))
  replace hb_1 := hn_2
  refine WL.nil (WX.then_normal (WC.seq (WC.region (WL.move rfl rfl (WL.len Try.underlying22 rfl rfl (WL.move rfl rfl (WL.nil (?_))))))))
  refine WX.then_normal (WC.block (?_))
  replace hO := (hO.pure k_1).chg k_2 ⟨by omega, fun j g hg => by have := lgs j g hg; omega⟩
  have hst : Chg (fun x => gf ≤ x) w _ := hw
  replace hb_1 : Blk _ g_1 84 ([wtq 0 i, wtq 1 i, wtq 2 i].map v8) := hb_1
  refine WC.loop (σ := Nat) (fun r => [(0, .pointer (some ⟨gf, 0, none⟩)), (3, .slice ac col.length cc), (8, .pointer (some ⟨g_1, 0, none⟩)), (16, .slice (some ⟨go, 0, none⟩) 3 3), (17, vi 3), (18, vi r)])
    (fun r w' => r ≤ 3 ∧ Blk w' gf 65 FR ∧ Blk w' g_1 84 ([wtq 0 i, wtq 1 i, wtq 2 i].map v8) ∧ OR w' 23 5 go 3 gs n (updR ys col i r) [] ∧ (∀ (j g : Nat), gs[j]? = some g → g < g_1) ∧ RSl (fun b => b < gf) w' eb ac cc col ∧ Chg (fun x => gf ≤ x) w w') (fun r => 3 - r) 0 ⟨rfl, rfl, rfl, rfl, rfl, rfl, trivial⟩ ⟨Nat.zero_le _, hR, hb_1, hO, ?_, hr, hw⟩ ?_
  ·
    clear hR hb_1 hr hw hst
    intro j g hg
    have := lgs j g hg
    omega
  clear hR hb_1 hO hr hw hst
  rintro r w8 ⟨hr3, hR, hb1, hO, hlt, hr, hw⟩
  refine WC.seq (WC.region (?_))
  refine WL.lss? rfl rfl rfl (fun h19 => ?_) (fun h19 => ?_)
  ·
    refine WL.nil (WX.then_normal (WC.seq (WC.cond_true rfl (WC.skip (WX.then_normal (WC.seq (WC.block (?_))))))))
    refine WC.seq (WC.region (WL.move rfl rfl (?_)))
    obtain ⟨g, hgr⟩ : ∃ g, gs[r]? = some g := ⟨_, List.getElem?_eq_getElem (by omega)⟩
    obtain ⟨x, hx0⟩ : ∃ x, ys[r]? = some x := ⟨_, List.getElem?_eq_getElem (by omega)⟩
    have hxr : (updR ys col i r)[r]? = some x := by rw [updR_at ys col i r r (Nat.le_refl _)]; exact hx0
    have hxl : x.length = n := hys x (List.mem_of_getElem? hx0)
    have hgo := hO.above r g hgr
    have hg1 := hlt r g hgr
    refine WL.index (sz := 1) Try.underlying22 Try.sizeOf23 rfl rfl rfl (by omega) rfl ?_
    refine WL.load Try.isAgg23 rfl ((hO.outer.rsl.cellsAt (orows_at hgr hxr)) 0 _ rfl) rfl ?_
    refine WL.assign rfl rfl (WL.assign rfl rfl (WL.nil (WX.then_normal (WC.seq (WC.region (WL.move rfl rfl (WL.len Try.underlying23 rfl rfl (?_))))))))
    refine WL.move rfl rfl (WL.nil (WX.then_normal (WC.block (?_))))
    have hp : Row (fun b => b = g) w8 5 eb (some ⟨g, 0, none⟩) n x := hO.inner r g x hgr hxr
    have hk := Chg.refl (fun b => b = g) w8
    refine WC.loop (σ := Nat) (fun k => [(0, .pointer (some ⟨gf, 0, none⟩)), (3, .slice ac col.length cc), (8, .pointer (some ⟨g_1, 0, none⟩)), (9, vi r), (10, .slice (some ⟨g, 0, none⟩) x.length n), (16, .slice (some ⟨go, 0, none⟩) 3 3), (17, vi 3), (18, vi r), (23, .slice ac col.length cc), (24, vi col.length), (25, vi k)])
      (fun k w' => k ≤ n ∧ Row (fun b => b = g) w' 5 eb (some ⟨g, 0, none⟩) n (addTo' x col (wtq r i) k) ∧ Blk w' gf 65 FR ∧ Blk w' g_1 84 ([wtq 0 i, wtq 1 i, wtq 2 i].map v8) ∧ RSl (fun b => b < gf) w' eb ac cc col ∧ Chg (fun b => b = g) w8 w') (fun k => n - k) 0 ⟨rfl, rfl, rfl, rfl, rfl, rfl, rfl, rfl, rfl, rfl, rfl, trivial⟩ ⟨Nat.zero_le _, by simpa [addTo'] using hp, hR, hb1, hr, hk⟩ ?_
    clear hR hb1 hr hk hp
    rintro k w9 ⟨hkn, hp, hR, hb1, hr, hk⟩
    have hal : (addTo' x col (wtq r i) k).length = n := by rw [addTo'_len (by omega) (by omega)]; exact hxl
    refine WC.seq (WC.region (?_))
    refine WL.lss? rfl rfl rfl (fun h26 => ?_) (fun h26 => ?_)
    ·
      refine WL.nil (WX.then_normal (WC.seq (WC.cond_true rfl (WC.skip (WX.then_normal (WC.seq (WC.block (?_))))))))
      refine WC.seq (WC.region (WL.move rfl rfl (?_)))
      obtain ⟨p, c0, hp0, hc0, fp, fset⟩ := addTo'_at (acc := x) (col := col) (m := wtq r i) (k := k) (by omega) (by omega)
      refine WL.indexT Try.underlying23 Try.sizeOf5 hr rfl rfl ⟨hc0, rfl⟩ rfl ?_
      intro b_3 o_3 hc_3
      refine WL.load Try.isAgg5 rfl (hc_3 0 _ rfl) rfl (WL.assign rfl rfl (WL.assign rfl rfl (WL.nil (WX.then_normal (?_)))))
      have fw := wt_at (i := i) (r := r) (by omega)
      refine WC.draw (fun b => b = g) [0, 1, 2, 4, 5, 6, 7, 8, 9, 11] [3, 10, 12] mixed rfl rfl (fun wd_4 kd_4 zd_4 => ?_)
      have zs_kd_4 := kd_4.size
      replace hp := hp.pure kd_4
      replace hR := hR.pure kd_4
      replace hb1 := hb1.pure kd_4
      replace hr := hr.pure kd_4
      replace hk := hk.pure kd_4
      apply DQ.step (E' := [(10, _)])
      case ho => rfl
      case hs => exact ⟨rfl, trivial⟩
      case hk => rfl
      case h1 =>
        intro wq_6 kq_6
        refine WL.move rfl rfl (?_)
        refine WL.nil ?_
        exact WX.one ⟨rfl, by first | exact Chg.refl _ _ | assumption⟩
      apply DQ.step (E' := [(11, _)])
      case ho => rfl
      case hs => exact ⟨rfl, trivial⟩
      case hk => rfl
      case h1 =>
        intro wq_7 kq_7
        refine WL.move rfl rfl (?_)
        refine WL.nil ?_
        exact WX.one ⟨rfl, by first | exact Chg.refl _ _ | assumption⟩
      apply DQ.step (E' := [(30, _), (31, _)])
      case ho => rfl
      case hs => exact ⟨rfl, rfl, trivial⟩
      case hk => rfl
      case h1 =>
        intro wq_8 kq_8
        have zs_kq_8 := kq_8.size
        replace hR := hR.chg kq_8 (by first | (intro x h1 h2; exact h2) | (intro x h0 h1 h2; exact hS x h1 h2) | (intro x h0 h1 h2; have h3 : _ = _ := h2; subst h3; exact hSR h1.1) | (intro x h1 h2; have h3 : _ = _ := h2; subst h3; assumption) | (intro x h1 h2; have h3 : _ = _ := h2; exfalso; omega) | (intro b h1 h2 h3; have h4 : _ = _ := h3; (try dsimp only at h2); exfalso; omega) | (intro h1; have h2 : _ = _ := h1; exfalso; omega) | (intro h1; have h2 : _ ≤ _ := h1; exfalso; omega) | (intros; exfalso; (try dsimp only at *); omega) | (intro b h1 h2 h3; exfalso; have h4 := h3.2; (try dsimp only at *); omega) | (intro h1; exfalso; have h4 := h1.2; (try dsimp only at *); omega) | (intro x h1 h2; exfalso; have h4 := h2.2; (try dsimp only at *); omega) | (intro x h1 h2; exact ⟨_, rfl, h2⟩) | (intro x h1 h2; have h4 := h2.1; have h5 := h2.2; exfalso; omega) | (intro x h1 h2; exact h2.1) | (intro x h1 h2; rcases h2.1 with h3 | h3; exact h3; exfalso; omega) | (intro x h1 h2; rcases h2 with h3 | h3; exact h3; exfalso; omega))
        replace hb1 := hb1.chg kq_8 (by first | (intro x h1 h2; exact h2) | (intro x h0 h1 h2; exact hS x h1 h2) | (intro x h0 h1 h2; have h3 : _ = _ := h2; subst h3; exact hSR h1.1) | (intro x h1 h2; have h3 : _ = _ := h2; subst h3; assumption) | (intro x h1 h2; have h3 : _ = _ := h2; exfalso; omega) | (intro b h1 h2 h3; have h4 : _ = _ := h3; (try dsimp only at h2); exfalso; omega) | (intro h1; have h2 : _ = _ := h1; exfalso; omega) | (intro h1; have h2 : _ ≤ _ := h1; exfalso; omega) | (intros; exfalso; (try dsimp only at *); omega) | (intro b h1 h2 h3; exfalso; have h4 := h3.2; (try dsimp only at *); omega) | (intro h1; exfalso; have h4 := h1.2; (try dsimp only at *); omega) | (intro x h1 h2; exfalso; have h4 := h2.2; (try dsimp only at *); omega) | (intro x h1 h2; exact ⟨_, rfl, h2⟩) | (intro x h1 h2; have h4 := h2.1; have h5 := h2.2; exfalso; omega) | (intro x h1 h2; exact h2.1) | (intro x h1 h2; rcases h2.1 with h3 | h3; exact h3; exfalso; omega) | (intro x h1 h2; rcases h2 with h3 | h3; exact h3; exfalso; omega))
        replace hr := hr.chg kq_8 (by first | (intro x h1 h2; exact h2) | (intro x h0 h1 h2; exact hS x h1 h2) | (intro x h0 h1 h2; have h3 : _ = _ := h2; subst h3; exact hSR h1.1) | (intro x h1 h2; have h3 : _ = _ := h2; subst h3; assumption) | (intro x h1 h2; have h3 : _ = _ := h2; exfalso; omega) | (intro b h1 h2 h3; have h4 : _ = _ := h3; (try dsimp only at h2); exfalso; omega) | (intro h1; have h2 : _ = _ := h1; exfalso; omega) | (intro h1; have h2 : _ ≤ _ := h1; exfalso; omega) | (intros; exfalso; (try dsimp only at *); omega) | (intro b h1 h2 h3; exfalso; have h4 := h3.2; (try dsimp only at *); omega) | (intro h1; exfalso; have h4 := h1.2; (try dsimp only at *); omega) | (intro x h1 h2; exfalso; have h4 := h2.2; (try dsimp only at *); omega) | (intro x h1 h2; exact ⟨_, rfl, h2⟩) | (intro x h1 h2; have h4 := h2.1; have h5 := h2.2; exfalso; omega) | (intro x h1 h2; exact h2.1) | (intro x h1 h2; rcases h2.1 with h3 | h3; exact h3; exfalso; omega) | (intro x h1 h2; rcases h2 with h3 | h3; exact h3; exfalso; omega))
        refine WL.index (sz := 1) Try.underlying23 Try.sizeOf5 rfl rfl rfl (by omega) rfl ?_
        refine WL.nil ?_
        exact WX.one ⟨rfl, by first | exact Chg.refl _ _ | assumption⟩
      apply DQ.step (E' := [(0, _)])
      case ho => rfl
      case hs => exact ⟨rfl, trivial⟩
      case hk => rfl
      case h1 =>
        intro wq_9 kq_9
        refine WL.move rfl rfl (?_)
        refine WL.nil ?_
        exact WX.one ⟨rfl, by first | exact Chg.refl _ _ | assumption⟩
      apply DQ.step (E' := [(9, _)])
      case ho => rfl
      case hs => exact ⟨rfl, trivial⟩
      case hk => rfl
      case h1 =>
        intro wq_10 kq_10
        refine WL.move rfl rfl (?_)
        refine WL.nil ?_
        exact WX.one ⟨rfl, by first | exact Chg.refl _ _ | assumption⟩
      apply DQ.step (E' := [(8, _), (35, _)])
      case ho => rfl
      case hs => exact ⟨rfl, rfl, trivial⟩
      case hk => rfl
      case h1 =>
        intro wq_11 kq_11
        have zs_kq_11 := kq_11.size
        replace hR := hR.chg kq_11 (by first | (intro x h1 h2; exact h2) | (intro x h0 h1 h2; exact hS x h1 h2) | (intro x h0 h1 h2; have h3 : _ = _ := h2; subst h3; exact hSR h1.1) | (intro x h1 h2; have h3 : _ = _ := h2; subst h3; assumption) | (intro x h1 h2; have h3 : _ = _ := h2; exfalso; omega) | (intro b h1 h2 h3; have h4 : _ = _ := h3; (try dsimp only at h2); exfalso; omega) | (intro h1; have h2 : _ = _ := h1; exfalso; omega) | (intro h1; have h2 : _ ≤ _ := h1; exfalso; omega) | (intros; exfalso; (try dsimp only at *); omega) | (intro b h1 h2 h3; exfalso; have h4 := h3.2; (try dsimp only at *); omega) | (intro h1; exfalso; have h4 := h1.2; (try dsimp only at *); omega) | (intro x h1 h2; exfalso; have h4 := h2.2; (try dsimp only at *); omega) | (intro x h1 h2; exact ⟨_, rfl, h2⟩) | (intro x h1 h2; have h4 := h2.1; have h5 := h2.2; exfalso; omega) | (intro x h1 h2; exact h2.1) | (intro x h1 h2; rcases h2.1 with h3 | h3; exact h3; exfalso; omega) | (intro x h1 h2; rcases h2 with h3 | h3; exact h3; exfalso; omega))
        replace hb1 := hb1.chg kq_11 (by first | (intro x h1 h2; exact h2) | (intro x h0 h1 h2; exact hS x h1 h2) | (intro x h0 h1 h2; have h3 : _ = _ := h2; subst h3; exact hSR h1.1) | (intro x h1 h2; have h3 : _ = _ := h2; subst h3; assumption) | (intro x h1 h2; have h3 : _ = _ := h2; exfalso; omega) | (intro b h1 h2 h3; have h4 : _ = _ := h3; (try dsimp only at h2); exfalso; omega) | (intro h1; have h2 : _ = _ := h1; exfalso; omega) | (intro h1; have h2 : _ ≤ _ := h1; exfalso; omega) | (intros; exfalso; (try dsimp only at *); omega) | (intro b h1 h2 h3; exfalso; have h4 := h3.2; (try dsimp only at *); omega) | (intro h1; exfalso; have h4 := h1.2; (try dsimp only at *); omega) | (intro x h1 h2; exfalso; have h4 := h2.2; (try dsimp only at *); omega) | (intro x h1 h2; exact ⟨_, rfl, h2⟩) | (intro x h1 h2; have h4 := h2.1; have h5 := h2.2; exfalso; omega) | (intro x h1 h2; exact h2.1) | (intro x h1 h2; rcases h2.1 with h3 | h3; exact h3; exfalso; omega) | (intro x h1 h2; rcases h2 with h3 | h3; exact h3; exfalso; omega))
        replace hr := hr.chg kq_11 (by first | (intro x h1 h2; exact h2) | (intro x h0 h1 h2; exact hS x h1 h2) | (intro x h0 h1 h2; have h3 : _ = _ := h2; subst h3; exact hSR h1.1) | (intro x h1 h2; have h3 : _ = _ := h2; subst h3; assumption) | (intro x h1 h2; have h3 : _ = _ := h2; exfalso; omega) | (intro b h1 h2 h3; have h4 : _ = _ := h3; (try dsimp only at h2); exfalso; omega) | (intro h1; have h2 : _ = _ := h1; exfalso; omega) | (intro h1; have h2 : _ ≤ _ := h1; exfalso; omega) | (intros; exfalso; (try dsimp only at *); omega) | (intro b h1 h2 h3; exfalso; have h4 := h3.2; (try dsimp only at *); omega) | (intro h1; exfalso; have h4 := h1.2; (try dsimp only at *); omega) | (intro x h1 h2; exfalso; have h4 := h2.2; (try dsimp only at *); omega) | (intro x h1 h2; exact ⟨_, rfl, h2⟩) | (intro x h1 h2; have h4 := h2.1; have h5 := h2.2; exfalso; omega) | (intro x h1 h2; exact h2.1) | (intro x h1 h2; rcases h2.1 with h3 | h3; exact h3; exfalso; omega) | (intro x h1 h2; rcases h2 with h3 | h3; exact h3; exfalso; omega))
        refine WL.indexArr (r) Try.underlying84 Try.sizeOf5 rfl rfl ⟨by omega, by omega⟩ rfl ?_
        refine WL.nil ?_
        exact WX.one ⟨rfl, by first | exact Chg.refl _ _ | assumption⟩
      apply DQ.step (E' := [(36, _)])
      case ho => rfl
      case hs => exact ⟨rfl, trivial⟩
      case hk => rfl
      case h1 =>
        intro wq_12 kq_12
        have zs_kq_12 := kq_12.size
        replace hR := hR.chg kq_12 (by first | (intro x h1 h2; exact h2) | (intro x h0 h1 h2; exact hS x h1 h2) | (intro x h0 h1 h2; have h3 : _ = _ := h2; subst h3; exact hSR h1.1) | (intro x h1 h2; have h3 : _ = _ := h2; subst h3; assumption) | (intro x h1 h2; have h3 : _ = _ := h2; exfalso; omega) | (intro b h1 h2 h3; have h4 : _ = _ := h3; (try dsimp only at h2); exfalso; omega) | (intro h1; have h2 : _ = _ := h1; exfalso; omega) | (intro h1; have h2 : _ ≤ _ := h1; exfalso; omega) | (intros; exfalso; (try dsimp only at *); omega) | (intro b h1 h2 h3; exfalso; have h4 := h3.2; (try dsimp only at *); omega) | (intro h1; exfalso; have h4 := h1.2; (try dsimp only at *); omega) | (intro x h1 h2; exfalso; have h4 := h2.2; (try dsimp only at *); omega) | (intro x h1 h2; exact ⟨_, rfl, h2⟩) | (intro x h1 h2; have h4 := h2.1; have h5 := h2.2; exfalso; omega) | (intro x h1 h2; exact h2.1) | (intro x h1 h2; rcases h2.1 with h3 | h3; exact h3; exfalso; omega) | (intro x h1 h2; rcases h2 with h3 | h3; exact h3; exfalso; omega))
        replace hb1 := hb1.chg kq_12 (by first | (intro x h1 h2; exact h2) | (intro x h0 h1 h2; exact hS x h1 h2) | (intro x h0 h1 h2; have h3 : _ = _ := h2; subst h3; exact hSR h1.1) | (intro x h1 h2; have h3 : _ = _ := h2; subst h3; assumption) | (intro x h1 h2; have h3 : _ = _ := h2; exfalso; omega) | (intro b h1 h2 h3; have h4 : _ = _ := h3; (try dsimp only at h2); exfalso; omega) | (intro h1; have h2 : _ = _ := h1; exfalso; omega) | (intro h1; have h2 : _ ≤ _ := h1; exfalso; omega) | (intros; exfalso; (try dsimp only at *); omega) | (intro b h1 h2 h3; exfalso; have h4 := h3.2; (try dsimp only at *); omega) | (intro h1; exfalso; have h4 := h1.2; (try dsimp only at *); omega) | (intro x h1 h2; exfalso; have h4 := h2.2; (try dsimp only at *); omega) | (intro x h1 h2; exact ⟨_, rfl, h2⟩) | (intro x h1 h2; have h4 := h2.1; have h5 := h2.2; exfalso; omega) | (intro x h1 h2; exact h2.1) | (intro x h1 h2; rcases h2.1 with h3 | h3; exact h3; exfalso; omega) | (intro x h1 h2; rcases h2 with h3 | h3; exact h3; exfalso; omega))
        replace hr := hr.chg kq_12 (by first | (intro x h1 h2; exact h2) | (intro x h0 h1 h2; exact hS x h1 h2) | (intro x h0 h1 h2; have h3 : _ = _ := h2; subst h3; exact hSR h1.1) | (intro x h1 h2; have h3 : _ = _ := h2; subst h3; assumption) | (intro x h1 h2; have h3 : _ = _ := h2; exfalso; omega) | (intro b h1 h2 h3; have h4 : _ = _ := h3; (try dsimp only at h2); exfalso; omega) | (intro h1; have h2 : _ = _ := h1; exfalso; omega) | (intro h1; have h2 : _ ≤ _ := h1; exfalso; omega) | (intros; exfalso; (try dsimp only at *); omega) | (intro b h1 h2 h3; exfalso; have h4 := h3.2; (try dsimp only at *); omega) | (intro h1; exfalso; have h4 := h1.2; (try dsimp only at *); omega) | (intro x h1 h2; exfalso; have h4 := h2.2; (try dsimp only at *); omega) | (intro x h1 h2; exact ⟨_, rfl, h2⟩) | (intro x h1 h2; have h4 := h2.1; have h5 := h2.2; exfalso; omega) | (intro x h1 h2; exact h2.1) | (intro x h1 h2; rcases h2.1 with h3 | h3; exact h3; exfalso; omega) | (intro x h1 h2; rcases h2 with h3 | h3; exact h3; exfalso; omega))
        refine WL.loadB Try.isAgg5 hb1 rfl (map_at _ fw) rfl (?_)
        refine WL.nil ?_
        exact WX.one ⟨rfl, by first | exact Chg.refl _ _ | assumption⟩
      apply DQ.step (E' := [(12, _)])
      case ho => rfl
      case hs => exact ⟨rfl, trivial⟩
      case hk => rfl
      case h1 =>
        intro wq_13 kq_13
        refine WL.move rfl rfl (?_)
        refine WL.nil ?_
        exact WX.one ⟨rfl, by first | exact Chg.refl _ _ | assumption⟩
      apply DQ.step (E' := [(34, _), (37, _), (38, _)])
      case ho => rfl
      case hs => exact ⟨rfl, rfl, rfl, trivial⟩
      case hk => rfl
      case h1 =>
        intro wq_14 kq_14
        have zs_kq_14 := kq_14.size
        replace hR := hR.chg kq_14 (by first | (intro x h1 h2; exact h2) | (intro x h0 h1 h2; exact hS x h1 h2) | (intro x h0 h1 h2; have h3 : _ = _ := h2; subst h3; exact hSR h1.1) | (intro x h1 h2; have h3 : _ = _ := h2; subst h3; assumption) | (intro x h1 h2; have h3 : _ = _ := h2; exfalso; omega) | (intro b h1 h2 h3; have h4 : _ = _ := h3; (try dsimp only at h2); exfalso; omega) | (intro h1; have h2 : _ = _ := h1; exfalso; omega) | (intro h1; have h2 : _ ≤ _ := h1; exfalso; omega) | (intros; exfalso; (try dsimp only at *); omega) | (intro b h1 h2 h3; exfalso; have h4 := h3.2; (try dsimp only at *); omega) | (intro h1; exfalso; have h4 := h1.2; (try dsimp only at *); omega) | (intro x h1 h2; exfalso; have h4 := h2.2; (try dsimp only at *); omega) | (intro x h1 h2; exact ⟨_, rfl, h2⟩) | (intro x h1 h2; have h4 := h2.1; have h5 := h2.2; exfalso; omega) | (intro x h1 h2; exact h2.1) | (intro x h1 h2; rcases h2.1 with h3 | h3; exact h3; exfalso; omega) | (intro x h1 h2; rcases h2 with h3 | h3; exact h3; exfalso; omega))
        replace hb1 := hb1.chg kq_14 (by first | (intro x h1 h2; exact h2) | (intro x h0 h1 h2; exact hS x h1 h2) | (intro x h0 h1 h2; have h3 : _ = _ := h2; subst h3; exact hSR h1.1) | (intro x h1 h2; have h3 : _ = _ := h2; subst h3; assumption) | (intro x h1 h2; have h3 : _ = _ := h2; exfalso; omega) | (intro b h1 h2 h3; have h4 : _ = _ := h3; (try dsimp only at h2); exfalso; omega) | (intro h1; have h2 : _ = _ := h1; exfalso; omega) | (intro h1; have h2 : _ ≤ _ := h1; exfalso; omega) | (intros; exfalso; (try dsimp only at *); omega) | (intro b h1 h2 h3; exfalso; have h4 := h3.2; (try dsimp only at *); omega) | (intro h1; exfalso; have h4 := h1.2; (try dsimp only at *); omega) | (intro x h1 h2; exfalso; have h4 := h2.2; (try dsimp only at *); omega) | (intro x h1 h2; exact ⟨_, rfl, h2⟩) | (intro x h1 h2; have h4 := h2.1; have h5 := h2.2; exfalso; omega) | (intro x h1 h2; exact h2.1) | (intro x h1 h2; rcases h2.1 with h3 | h3; exact h3; exfalso; omega) | (intro x h1 h2; rcases h2 with h3 | h3; exact h3; exfalso; omega))
        replace hr := hr.chg kq_14 (by first | (intro x h1 h2; exact h2) | (intro x h0 h1 h2; exact hS x h1 h2) | (intro x h0 h1 h2; have h3 : _ = _ := h2; subst h3; exact hSR h1.1) | (intro x h1 h2; have h3 : _ = _ := h2; subst h3; assumption) | (intro x h1 h2; have h3 : _ = _ := h2; exfalso; omega) | (intro b h1 h2 h3; have h4 : _ = _ := h3; (try dsimp only at h2); exfalso; omega) | (intro h1; have h2 : _ = _ := h1; exfalso; omega) | (intro h1; have h2 : _ ≤ _ := h1; exfalso; omega) | (intros; exfalso; (try dsimp only at *); omega) | (intro b h1 h2 h3; exfalso; have h4 := h3.2; (try dsimp only at *); omega) | (intro h1; exfalso; have h4 := h1.2; (try dsimp only at *); omega) | (intro x h1 h2; exfalso; have h4 := h2.2; (try dsimp only at *); omega) | (intro x h1 h2; exact ⟨_, rfl, h2⟩) | (intro x h1 h2; have h4 := h2.1; have h5 := h2.2; exfalso; omega) | (intro x h1 h2; exact h2.1) | (intro x h1 h2; rcases h2.1 with h3 | h3; exact h3; exfalso; omega) | (intro x h1 h2; rcases h2 with h3 | h3; exact h3; exfalso; omega))
        refine WL.call eg_15 rfl rfl (mulR_calls hR _ _) ?_
        rintro v w4 ⟨rfl, k4⟩
        have zs_k4 := k4.size
        replace hR := hR.pure k4
        replace hb1 := hb1.pure k4
        replace hr := hr.pure k4
        refine WL.nil ?_
        exact WX.one ⟨rfl, by first | exact Chg.refl _ _ | assumption⟩
      apply DQ.step (E' := [(30, _), (31, _)])
      case ho => rfl
      case hs => exact ⟨rfl, rfl, trivial⟩
      case hk => rfl
      case h1 =>
        intro wq_15 kq_15
        have zs_kq_15 := kq_15.size
        replace hR := hR.chg kq_15 (by first | (intro x h1 h2; exact h2) | (intro x h0 h1 h2; exact hS x h1 h2) | (intro x h0 h1 h2; have h3 : _ = _ := h2; subst h3; exact hSR h1.1) | (intro x h1 h2; have h3 : _ = _ := h2; subst h3; assumption) | (intro x h1 h2; have h3 : _ = _ := h2; exfalso; omega) | (intro b h1 h2 h3; have h4 : _ = _ := h3; (try dsimp only at h2); exfalso; omega) | (intro h1; have h2 : _ = _ := h1; exfalso; omega) | (intro h1; have h2 : _ ≤ _ := h1; exfalso; omega) | (intros; exfalso; (try dsimp only at *); omega) | (intro b h1 h2 h3; exfalso; have h4 := h3.2; (try dsimp only at *); omega) | (intro h1; exfalso; have h4 := h1.2; (try dsimp only at *); omega) | (intro x h1 h2; exfalso; have h4 := h2.2; (try dsimp only at *); omega) | (intro x h1 h2; exact ⟨_, rfl, h2⟩) | (intro x h1 h2; have h4 := h2.1; have h5 := h2.2; exfalso; omega) | (intro x h1 h2; exact h2.1) | (intro x h1 h2; rcases h2.1 with h3 | h3; exact h3; exfalso; omega) | (intro x h1 h2; rcases h2 with h3 | h3; exact h3; exfalso; omega))
        replace hb1 := hb1.chg kq_15 (by first | (intro x h1 h2; exact h2) | (intro x h0 h1 h2; exact hS x h1 h2) | (intro x h0 h1 h2; have h3 : _ = _ := h2; subst h3; exact hSR h1.1) | (intro x h1 h2; have h3 : _ = _ := h2; subst h3; assumption) | (intro x h1 h2; have h3 : _ = _ := h2; exfalso; omega) | (intro b h1 h2 h3; have h4 : _ = _ := h3; (try dsimp only at h2); exfalso; omega) | (intro h1; have h2 : _ = _ := h1; exfalso; omega) | (intro h1; have h2 : _ ≤ _ := h1; exfalso; omega) | (intros; exfalso; (try dsimp only at *); omega) | (intro b h1 h2 h3; exfalso; have h4 := h3.2; (try dsimp only at *); omega) | (intro h1; exfalso; have h4 := h1.2; (try dsimp only at *); omega) | (intro x h1 h2; exfalso; have h4 := h2.2; (try dsimp only at *); omega) | (intro x h1 h2; exact ⟨_, rfl, h2⟩) | (intro x h1 h2; have h4 := h2.1; have h5 := h2.2; exfalso; omega) | (intro x h1 h2; exact h2.1) | (intro x h1 h2; rcases h2.1 with h3 | h3; exact h3; exfalso; omega) | (intro x h1 h2; rcases h2 with h3 | h3; exact h3; exfalso; omega))
        replace hr := hr.chg kq_15 (by first | (intro x h1 h2; exact h2) | (intro x h0 h1 h2; exact hS x h1 h2) | (intro x h0 h1 h2; have h3 : _ = _ := h2; subst h3; exact hSR h1.1) | (intro x h1 h2; have h3 : _ = _ := h2; subst h3; assumption) | (intro x h1 h2; have h3 : _ = _ := h2; exfalso; omega) | (intro b h1 h2 h3; have h4 : _ = _ := h3; (try dsimp only at h2); exfalso; omega) | (intro h1; have h2 : _ = _ := h1; exfalso; omega) | (intro h1; have h2 : _ ≤ _ := h1; exfalso; omega) | (intros; exfalso; (try dsimp only at *); omega) | (intro b h1 h2 h3; exfalso; have h4 := h3.2; (try dsimp only at *); omega) | (intro h1; exfalso; have h4 := h1.2; (try dsimp only at *); omega) | (intro x h1 h2; exfalso; have h4 := h2.2; (try dsimp only at *); omega) | (intro x h1 h2; exact ⟨_, rfl, h2⟩) | (intro x h1 h2; have h4 := h2.1; have h5 := h2.2; exfalso; omega) | (intro x h1 h2; exact h2.1) | (intro x h1 h2; rcases h2.1 with h3 | h3; exact h3; exfalso; omega) | (intro x h1 h2; rcases h2 with h3 | h3; exact h3; exfalso; omega))
        refine WL.index (sz := 1) Try.underlying23 Try.sizeOf5 rfl rfl rfl (by omega) rfl ?_
        refine WL.nil ?_
        exact WX.one ⟨rfl, by first | exact Chg.refl _ _ | assumption⟩
      refine DQ.done (fun hd_5 => ?_)
      refine DL.step [(32, _)] rfl ⟨rfl, trivial⟩ rfl (fun wq_16 kq_16 => ?_)
      have zs_kq_16 := kq_16.size
      replace hp := hp.pure kq_16
      replace hR := hR.pure kq_16
      replace hb1 := hb1.pure kq_16
      replace hr := hr.pure kq_16
      replace hk := hk.pure kq_16
      replace hd_5 := hd_5.pure kq_16
      refine WL.load Try.isAgg5 rfl ((hp.rsl.cellsAt fp) 0 _ rfl) rfl ?_
      refine WL.nil ?_
      refine WX.one ⟨hd_5, ?_⟩
      refine DL.step [(33, _), (39, _)] rfl ⟨rfl, rfl, trivial⟩ rfl (fun wq_17 kq_17 => ?_)
      have zs_kq_17 := kq_17.size
      replace hp := hp.pure kq_17
      replace hR := hR.pure kq_17
      replace hb1 := hb1.pure kq_17
      replace hr := hr.pure kq_17
      replace hk := hk.pure kq_17
      replace hd_5 := hd_5.pure kq_17
      refine WL.num rfl rfl (n_xor8 _ _ _ _) rfl (?_)
      refine WL.nil ?_
      refine WX.one ⟨hd_5, ?_⟩
      refine DL.step [(41, _), (40, _)] rfl ⟨rfl, rfl, trivial⟩ rfl (fun wq_18 kq_18 => ?_)
      have zs_kq_18 := kq_18.size
      replace hp := hp.pure kq_18
      replace hR := hR.pure kq_18
      replace hb1 := hb1.pure kq_18
      replace hr := hr.pure kq_18
      replace hk := hk.pure kq_18
      replace hd_5 := hd_5.pure kq_18
      refine WL.storeRow (z := p ^^^ mul (wtq r i) c0) (k) Try.sizeOf5 hp rfl rfl rfl (by first | (simp; done) | (show 0 + _ * 1 = _; omega)) (by omega) rfl ?_
      intro w_19 zs_19 nr_19 k_19
      have zs_k_19 := k_19.size
      replace hR := hR.chg k_19 (by first | (intro x h1 h2; exact h2) | (intro x h0 h1 h2; exact hS x h1 h2) | (intro x h0 h1 h2; have h3 : _ = _ := h2; subst h3; exact hSR h1.1) | (intro x h1 h2; have h3 : _ = _ := h2; subst h3; assumption) | (intro x h1 h2; have h3 : _ = _ := h2; exfalso; omega) | (intro b h1 h2 h3; have h4 : _ = _ := h3; (try dsimp only at h2); exfalso; omega) | (intro h1; have h2 : _ = _ := h1; exfalso; omega) | (intro h1; have h2 : _ ≤ _ := h1; exfalso; omega) | (intros; exfalso; (try dsimp only at *); omega) | (intro b h1 h2 h3; exfalso; have h4 := h3.2; (try dsimp only at *); omega) | (intro h1; exfalso; have h4 := h1.2; (try dsimp only at *); omega) | (intro x h1 h2; exfalso; have h4 := h2.2; (try dsimp only at *); omega) | (intro x h1 h2; exact ⟨_, rfl, h2⟩) | (intro x h1 h2; have h4 := h2.1; have h5 := h2.2; exfalso; omega) | (intro x h1 h2; exact h2.1) | (intro x h1 h2; rcases h2.1 with h3 | h3; exact h3; exfalso; omega) | (intro x h1 h2; rcases h2 with h3 | h3; exact h3; exfalso; omega))
      replace hb1 := hb1.chg k_19 (by first | (intro x h1 h2; exact h2) | (intro x h0 h1 h2; exact hS x h1 h2) | (intro x h0 h1 h2; have h3 : _ = _ := h2; subst h3; exact hSR h1.1) | (intro x h1 h2; have h3 : _ = _ := h2; subst h3; assumption) | (intro x h1 h2; have h3 : _ = _ := h2; exfalso; omega) | (intro b h1 h2 h3; have h4 : _ = _ := h3; (try dsimp only at h2); exfalso; omega) | (intro h1; have h2 : _ = _ := h1; exfalso; omega) | (intro h1; have h2 : _ ≤ _ := h1; exfalso; omega) | (intros; exfalso; (try dsimp only at *); omega) | (intro b h1 h2 h3; exfalso; have h4 := h3.2; (try dsimp only at *); omega) | (intro h1; exfalso; have h4 := h1.2; (try dsimp only at *); omega) | (intro x h1 h2; exfalso; have h4 := h2.2; (try dsimp only at *); omega) | (intro x h1 h2; exact ⟨_, rfl, h2⟩) | (intro x h1 h2; have h4 := h2.1; have h5 := h2.2; exfalso; omega) | (intro x h1 h2; exact h2.1) | (intro x h1 h2; rcases h2.1 with h3 | h3; exact h3; exfalso; omega) | (intro x h1 h2; rcases h2 with h3 | h3; exact h3; exfalso; omega))
      replace hr := hr.chg k_19 (by first | (intro x h1 h2; exact h2) | (intro x h0 h1 h2; exact hS x h1 h2) | (intro x h0 h1 h2; have h3 : _ = _ := h2; subst h3; exact hSR h1.1) | (intro x h1 h2; have h3 : _ = _ := h2; subst h3; assumption) | (intro x h1 h2; have h3 : _ = _ := h2; exfalso; omega) | (intro b h1 h2 h3; have h4 : _ = _ := h3; (try dsimp only at h2); exfalso; omega) | (intro h1; have h2 : _ = _ := h1; exfalso; omega) | (intro h1; have h2 : _ ≤ _ := h1; exfalso; omega) | (intros; exfalso; (try dsimp only at *); omega) | (intro b h1 h2 h3; exfalso; have h4 := h3.2; (try dsimp only at *); omega) | (intro h1; exfalso; have h4 := h1.2; (try dsimp only at *); omega) | (intro x h1 h2; exfalso; have h4 := h2.2; (try dsimp only at *); omega) | (intro x h1 h2; exact ⟨_, rfl, h2⟩) | (intro x h1 h2; have h4 := h2.1; have h5 := h2.2; exfalso; omega) | (intro x h1 h2; exact h2.1) | (intro x h1 h2; rcases h2.1 with h3 | h3; exact h3; exfalso; omega) | (intro x h1 h2; rcases h2 with h3 | h3; exact h3; exfalso; omega))
      replace hk := hk.chg k_19 (by first | (intro x h1 h2; exact h2) | (intro x h0 h1 h2; exact hS x h1 h2) | (intro x h0 h1 h2; have h3 : _ = _ := h2; subst h3; exact hSR h1.1) | (intro x h1 h2; have h3 : _ = _ := h2; subst h3; assumption) | (intro x h1 h2; have h3 : _ = _ := h2; exfalso; omega) | (intro b h1 h2 h3; have h4 : _ = _ := h3; (try dsimp only at h2); exfalso; omega) | (intro h1; have h2 : _ = _ := h1; exfalso; omega) | (intro h1; have h2 : _ ≤ _ := h1; exfalso; omega) | (intros; exfalso; (try dsimp only at *); omega) | (intro b h1 h2 h3; exfalso; have h4 := h3.2; (try dsimp only at *); omega) | (intro h1; exfalso; have h4 := h1.2; (try dsimp only at *); omega) | (intro x h1 h2; exfalso; have h4 := h2.2; (try dsimp only at *); omega) | (intro x h1 h2; exact ⟨_, rfl, h2⟩) | (intro x h1 h2; have h4 := h2.1; have h5 := h2.2; exfalso; omega) | (intro x h1 h2; exact h2.1) | (intro x h1 h2; rcases h2.1 with h3 | h3; exact h3; exfalso; omega) | (intro x h1 h2; rcases h2 with h3 | h3; exact h3; exfalso; omega))
      replace hd_5 := hd_5.chg k_19 (by first | (intro x h1 h2; exact h2) | (intro x h0 h1 h2; exact hS x h1 h2) | (intro x h0 h1 h2; have h3 : _ = _ := h2; subst h3; exact hSR h1.1) | (intro x h1 h2; have h3 : _ = _ := h2; subst h3; assumption) | (intro x h1 h2; have h3 : _ = _ := h2; exfalso; omega) | (intro b h1 h2 h3; have h4 : _ = _ := h3; (try dsimp only at h2); exfalso; omega) | (intro h1; have h2 : _ = _ := h1; exfalso; omega) | (intro h1; have h2 : _ ≤ _ := h1; exfalso; omega) | (intros; exfalso; (try dsimp only at *); omega) | (intro b h1 h2 h3; exfalso; have h4 := h3.2; (try dsimp only at *); omega) | (intro h1; exfalso; have h4 := h1.2; (try dsimp only at *); omega) | (intro x h1 h2; exfalso; have h4 := h2.2; (try dsimp only at *); omega) | (intro x h1 h2; exact ⟨_, rfl, h2⟩) | (intro x h1 h2; have h4 := h2.1; have h5 := h2.2; exfalso; omega) | (intro x h1 h2; exact h2.1) | (intro x h1 h2; rcases h2.1 with h3 | h3; exact h3; exfalso; omega) | (intro x h1 h2; rcases h2 with h3 | h3; exact h3; exfalso; omega))
      replace hp := nr_19
      rw [fset] at hp
      refine WL.nil ?_
      refine WX.one0 (v := undef) ⟨hd_5, ?_⟩
      refine DL.done (fun we_20 ke_20 => ?_)
      have zs_ke_20 := ke_20.size
      replace hp := hp.pure ke_20
      replace hR := hR.pure ke_20
      replace hb1 := hb1.pure ke_20
      replace hr := hr.pure ke_20
      replace hk := hk.pure ke_20
      replace hd_5 := hd_5.pure ke_20
      refine WX.block_normal (WX.then_normal (WC.region (WL.add64 rfl rfl (by first | omega | (constructor <;> omega)) rfl (WL.move rfl rfl (WL.nil (?_))))))
      first
        | (refine WX.loop_next (k + 1) ⟨rfl, rfl, rfl, rfl, rfl, rfl, rfl, rfl, rfl, rfl, rfl, trivial⟩ ⟨by omega, hp, hR, hb1, hr, hk⟩ (by show _ - _ < _ - _; omega))
        | (have hkn2 : k = x.length := by omega
           subst hkn2
           rw [addTo'_end (by omega)] at hp
           have hO2 := hO.upd hgr hxr (addRow_len (by omega)) hk ⟨by omega, fun j g' hj hne e => hne (hO.apart j r g' hj (by rw [e]; exact hgr))⟩ hp
           have hw2 := hw.chg hk (fun x _ h => by have h3 : _ = _ := h; omega)
           refine WX.loop_next (r + 1) ⟨rfl, rfl, rfl, rfl, rfl, rfl, trivial⟩ ⟨by omega, hR, hb1, ?_, hlt, hr, hw2⟩ (by show _ - _ < _ - _; omega)
           rw [updR, show ys.getD r [] = x from by rw [List.getD_eq_getElem?_getD, hx0]; rfl]
           exact hO2)
    ·
      refine WL.nil (WX.then_normal (WC.seq (WC.cond_false rfl (WC.exit (WX.then_exit (WX.then_exit (WX.block_here (?_))))))))
      refine WX.block_normal (WX.then_normal (WC.region (WL.add64 rfl rfl (by first | omega | (constructor <;> omega)) rfl (WL.move rfl rfl (WL.nil (?_))))))
      first
        | (refine WX.loop_next (k + 1) ⟨rfl, rfl, rfl, rfl, rfl, rfl, rfl, rfl, rfl, rfl, rfl, trivial⟩ ⟨by omega, hp, hR, hb1, hr, hk⟩ (by show _ - _ < _ - _; omega))
        | (have hkn2 : k = x.length := by omega
           subst hkn2
           rw [addTo'_end (by omega)] at hp
           have hO2 := hO.upd hgr hxr (addRow_len (by omega)) hk ⟨by omega, fun j g' hj hne e => hne (hO.apart j r g' hj (by rw [e]; exact hgr))⟩ hp
           have hw2 := hw.chg hk (fun x _ h => by have h3 : _ = _ := h; omega)
           refine WX.loop_next (r + 1) ⟨rfl, rfl, rfl, rfl, rfl, rfl, trivial⟩ ⟨by omega, hR, hb1, ?_, hlt, hr, hw2⟩ (by show _ - _ < _ - _; omega)
           rw [updR, show ys.getD r [] = x from by rw [List.getD_eq_getElem?_getD, hx0]; rfl]
           exact hO2)
  ·
    refine WL.nil (WX.then_normal (WC.seq (WC.cond_false rfl (WC.exit (WX.then_exit (WX.then_exit (WX.block_here (?_))))))))
    refine WX.ret0 (.inr rfl) Try.results51 ?_
    have h3 : r = 3 := by omega
    subst h3
    exact ⟨_, rfl, rfl, hR, hO, hw⟩
end Go.Proofs.Ytjdbjdgobhjbkaa
namespace Go.Proofs.Ytjdbjdgobhjbkaa
open Go.RowKit Go.HL

def nilRw : Rw := ⟨none, 0, []⟩
set_option maxHeartbeats 4000000 in
theorem sums_calls {w : World} {gf n : Nat} {ac : Option Addr} {cc : Nat} {rs : List Rw} (hF : Fld w gf) (hc : RS (fun b => b < gf) w ac cc rs) (hn : n ≤ 4096) (hl : rs.length ≤ 13) (hall : ∀ d ∈ xss rs, d.length = n) :
    Calls Try.prog 42 [.pointer (some ⟨gf, 0, none⟩), .slice ac rs.length cc, vi n, .slice none 0 0].toArray w (Ret fun v w' => (∃ (go : Nat) (gs : List Nat), v = .slice (some ⟨go, 0, none⟩) 3 3 ∧ OR w' 23 5 go 3 gs n (three (xss rs) n rs.length) [] ∧ gs.length = 3 ∧ w.heap.size ≤ go) ∧ Chg (fun x => gf ≤ x) w w') := by
  have hw := Chg.refl (fun x => x = gf) w
  have lgf := hF.lt
  refine Calls.of_WC Try.func42 rfl Try.ntmps42 (by simp) ?_
  refine WC.seq (WC.region (WL.assign rfl rfl (WL.nil (WX.then_normal (WC.seq (WC.region (?_)))))))
  refine WL.make (e := erow) nilRw 3 3 Try.underlying22 info_23 rfl rfl rfl ⟨rfl, rfl, by decide⟩ (by decide) rfl ?_
  intro go wq hq kq zq ego
  rw [show (List.replicate 3 nilRw).length = 3 from rfl]
  have zs_kq := kq.size
  replace hF := hF.pure kq
  replace hc := hc.pure kq
  replace hw := hw.pure kq
  refine WL.assign rfl rfl (WL.nil (WX.then_normal (WC.seq (WC.seq (WC.region (WL.move rfl rfl (WL.len Try.underlying22 rfl rfl (?_))))))))
  refine WL.move rfl rfl (WL.nil (WX.then_normal (WC.block (?_))))
  have lgo : gf < go := by omega
  have hq0 : Row (fun b => b = go) wq 23 erow (some ⟨go, 0, none⟩) 3 (List.replicate 3 nilRw) := ⟨fun a ea => by injection ea with ea; subst ea; rfl, hq.own⟩
  have hO0 : OR wq 23 5 go 3 [] n [] (List.replicate 3 nilRw) := ⟨hq0, fun i g x h => by simp at h, rfl, fun i j g h => by simp at h, fun i g h => by simp at h⟩
  have hwg : w.heap.size ≤ go := by omega
  refine WC.loop (σ := List Nat) (fun gs => [(0, .pointer (some ⟨gf, 0, none⟩)), (1, .slice ac rs.length cc), (2, vi n), (3, .slice none 0 0), (9, .slice (some ⟨go, 0, none⟩) 3 3), (15, vi 3), (16, vi gs.length)])
    (fun gs w' => gs.length ≤ 3 ∧ OR w' 23 5 go 3 gs n (List.replicate gs.length (List.replicate n 0)) (List.replicate (3 - gs.length) nilRw) ∧ Fld w' gf ∧ RS (fun b => b < gf) w' ac cc rs ∧ Chg (fun x => x = gf) w w') (fun gs => 3 - gs.length) [] ⟨rfl, rfl, rfl, rfl, rfl, rfl, rfl, trivial⟩ ⟨by decide, hO0, hF, hc, hw⟩ ?_
  clear hF hc hw hq hq0 hO0
  rintro gs w8 ⟨hg3, hO, hF, hc, hw⟩
  refine WC.seq (WC.region (?_))
  refine WL.lss? rfl rfl rfl (fun h17 => ?_) (fun h17 => ?_)
  ·
    refine WL.nil (WX.then_normal (WC.seq (WC.cond_true rfl (WC.skip (WX.then_normal (WC.seq (WC.block (?_))))))))
    refine WC.seq (WC.region (WL.move rfl rfl (WL.assign rfl rfl (WL.nil (WX.then_normal (WC.region (WL.move rfl rfl (?_))))))))
    refine WL.move rfl rfl (WL.move rfl rfl (?_))
    have lgs : ∀ (j g : Nat), gs[j]? = some g → g < w8.heap.size := fun j g h => hO.lt h
    have lgo8 := hO.lto
    refine WL.make (e := eb) (0 : UInt8) n n Try.underlying23 info_5 rfl rfl rfl ⟨rfl, rfl, Nat.le_refl _⟩ (by constructor <;> omega) rfl ?_
    intro g w9 hg9 k9 z9 eg
    rw [List.length_replicate]
    replace hO := hO.pure k9
    have hgr : Row (fun b => b = g) w9 5 eb (some ⟨g, 0, none⟩) n (List.replicate n 0) := ⟨fun a ea => by injection ea with ea; subst ea; rfl, hg9.own⟩
    obtain ⟨tl, htl⟩ : ∃ tl, List.replicate (3 - gs.length) nilRw = nilRw :: tl ∧ tl = List.replicate (3 - (gs.length + 1)) nilRw := ⟨_, by rw [show 3 - gs.length = (3 - (gs.length + 1)) + 1 from by omega, List.replicate_succ], rfl⟩
    rw [htl.1] at hO
    have hol : (orows gs n (List.replicate gs.length (List.replicate n 0)) ++ nilRw :: tl).length = 3 := by
      rw [List.length_append, orows_len (by rw [List.length_replicate]), htl.2, List.length_cons, List.length_replicate]
      omega
    have zs_k9 := k9.size
    replace hF := hF.pure k9
    replace hc := hc.pure k9
    replace hw := hw.pure k9
    refine WL.index (sz := 1) Try.underlying22 Try.sizeOf23 rfl rfl rfl (by omega) rfl ?_
    refine WL.storeRow (z := ⟨some ⟨g, 0, none⟩, n, List.replicate n 0⟩) gs.length Try.sizeOf23 hO.outer rfl (by show [Value.slice (some ⟨g, 0, none⟩) (List.replicate n 0).length n] = _; rw [List.length_replicate]) rfl (by show 0 + _ * 1 = _; omega) (by omega) rfl ?_
    intro w4 zs4 ho4 k4
    have zs_k4 := k4.size
    replace hF := hF.chg k4 (by first | (intro x h1 h2; exact h2) | (intro x h0 h1 h2; exact hS x h1 h2) | (intro x h0 h1 h2; have h3 : _ = _ := h2; subst h3; exact hSR h1.1) | (intro x h1 h2; have h3 : _ = _ := h2; subst h3; assumption) | (intro x h1 h2; have h3 : _ = _ := h2; exfalso; omega) | (intro b h1 h2 h3; have h4 : _ = _ := h3; (try dsimp only at h2); exfalso; omega) | (intro h1; have h2 : _ = _ := h1; exfalso; omega) | (intro h1; have h2 : _ ≤ _ := h1; exfalso; omega) | (intros; exfalso; (try dsimp only at *); omega) | (intro b h1 h2 h3; exfalso; have h4 := h3.2; (try dsimp only at *); omega) | (intro h1; exfalso; have h4 := h1.2; (try dsimp only at *); omega) | (intro x h1 h2; exfalso; have h4 := h2.2; (try dsimp only at *); omega) | (intro x h1 h2; exact ⟨_, rfl, h2⟩) | (intro x h1 h2; have h4 := h2.1; have h5 := h2.2; exfalso; omega) | (intro x h1 h2; exact h2.1) | (intro x h1 h2; rcases h2.1 with h3 | h3; exact h3; exfalso; omega) | (intro x h1 h2; rcases h2 with h3 | h3; exact h3; exfalso; omega))
    replace hc := hc.chg k4 (by first | (intro x h1 h2; exact h2) | (intro x h0 h1 h2; exact hS x h1 h2) | (intro x h0 h1 h2; have h3 : _ = _ := h2; subst h3; exact hSR h1.1) | (intro x h1 h2; have h3 : _ = _ := h2; subst h3; assumption) | (intro x h1 h2; have h3 : _ = _ := h2; exfalso; omega) | (intro b h1 h2 h3; have h4 : _ = _ := h3; (try dsimp only at h2); exfalso; omega) | (intro h1; have h2 : _ = _ := h1; exfalso; omega) | (intro h1; have h2 : _ ≤ _ := h1; exfalso; omega) | (intros; exfalso; (try dsimp only at *); omega) | (intro b h1 h2 h3; exfalso; have h4 := h3.2; (try dsimp only at *); omega) | (intro h1; exfalso; have h4 := h1.2; (try dsimp only at *); omega) | (intro x h1 h2; exfalso; have h4 := h2.2; (try dsimp only at *); omega) | (intro x h1 h2; exact ⟨_, rfl, h2⟩) | (intro x h1 h2; have h4 := h2.1; have h5 := h2.2; exfalso; omega) | (intro x h1 h2; exact h2.1) | (intro x h1 h2; rcases h2.1 with h3 | h3; exact h3; exfalso; omega) | (intro x h1 h2; rcases h2 with h3 | h3; exact h3; exfalso; omega))
    replace hw := hw.chg k4 (by first | (intro x h1 h2; exact h2) | (intro x h0 h1 h2; exact hS x h1 h2) | (intro x h0 h1 h2; have h3 : _ = _ := h2; subst h3; exact hSR h1.1) | (intro x h1 h2; have h3 : _ = _ := h2; subst h3; assumption) | (intro x h1 h2; have h3 : _ = _ := h2; exfalso; omega) | (intro b h1 h2 h3; have h4 : _ = _ := h3; (try dsimp only at h2); exfalso; omega) | (intro h1; have h2 : _ = _ := h1; exfalso; omega) | (intro h1; have h2 : _ ≤ _ := h1; exfalso; omega) | (intros; exfalso; (try dsimp only at *); omega) | (intro b h1 h2 h3; exfalso; have h4 := h3.2; (try dsimp only at *); omega) | (intro h1; exfalso; have h4 := h1.2; (try dsimp only at *); omega) | (intro x h1 h2; exfalso; have h4 := h2.2; (try dsimp only at *); omega) | (intro x h1 h2; exact ⟨_, rfl, h2⟩) | (intro x h1 h2; have h4 := h2.1; have h5 := h2.2; exfalso; omega) | (intro x h1 h2; exact h2.1) | (intro x h1 h2; rcases h2.1 with h3 | h3; exact h3; exfalso; omega) | (intro x h1 h2; rcases h2 with h3 | h3; exact h3; exfalso; omega))
    have hO2 := hO.snoc (g := g) (x := List.replicate n 0) (by omega) (fun i g' h => by have := lgs i g' h; omega) k4 (fun i g' h e => by have h2 : g' = go := e; have := hO.above i g' h; omega) ho4 (hgr.chg k4 (fun b h1 h2 h3 => by have h4 : b = go := h3; have h5 : b = g := h2; omega))
    refine WL.nil (WX.block_normal (WX.then_normal (WC.region (WL.add64 rfl rfl (by first | omega | (constructor <;> omega)) rfl (WL.move rfl rfl (WL.nil (?_)))))))
    first
      | (refine WX.loop_next (gs ++ [g]) ⟨rfl, rfl, rfl, rfl, rfl, rfl, ?_, trivial⟩ ⟨by rw [List.length_append]; show gs.length + 1 ≤ 3; omega, ?_, hF, hc, hw⟩ (by rw [List.length_append]; show 3 - (gs.length + 1) < 3 - gs.length; omega)
         ·
           rw [List.length_append]
           rfl
         ·
           rw [List.length_append, show gs.length + [g].length = gs.length + 1 from rfl, ← htl.2, List.replicate_succ']
           exact hO2)
      | exact WX.loop_next (i + 1) ⟨rfl, rfl, rfl, rfl, rfl, rfl, trivial⟩ ⟨by omega, hF, hO, hc, hk⟩ (by show _ - _ < _ - _; omega)
  ·
    refine WL.nil (WX.then_normal (WC.seq (WC.cond_false rfl (WC.exit (WX.then_exit (WX.then_exit (WX.block_here (?_))))))))
    refine WX.then_normal (WC.seq (WC.seq (WC.region (WL.move rfl rfl (WL.len Try.underlying22 rfl rfl (WL.move rfl rfl (WL.nil (?_))))))))
    refine WX.then_normal (WC.block (?_))
    have hgs3 : gs.length = 3 := by omega
    rw [hgs3] at hO
    have hO1 : OR w8 23 5 go 3 gs n (three (xss rs) n 0) [] := hO
    refine WC.loop (σ := Nat) (fun i => [(0, .pointer (some ⟨gf, 0, none⟩)), (3, .slice none 0 0), (9, .slice (some ⟨go, 0, none⟩) 3 3), (25, .slice ac rs.length cc), (26, vi rs.length), (27, vi i)])
      (fun i w' => i ≤ rs.length ∧ Fld w' gf ∧ OR w' 23 5 go 3 gs n (three (xss rs) n i) [] ∧ RS (fun b => b < gf) w' ac cc rs ∧ Chg (fun x => gf ≤ x) w8 w') (fun i => rs.length - i) 0 ⟨rfl, rfl, rfl, rfl, rfl, rfl, trivial⟩ ⟨Nat.zero_le _, hF, hO1, hc, Chg.refl _ _⟩ ?_
    clear hO hO1 hF hc
    rintro i w7 ⟨hi, hF, hO, hc, hk⟩
    refine WC.seq (WC.region (?_))
    refine WL.lss? rfl rfl rfl (fun h28 => ?_) (fun h28 => ?_)
    ·
      refine WL.nil (WX.then_normal (WC.seq (WC.cond_true rfl (WC.skip (WX.then_normal (WC.seq (WC.block (?_))))))))
      refine WC.seq (WC.region (WL.move rfl rfl (?_)))
      obtain ⟨r, hr⟩ : ∃ r, rs[i]? = some r := ⟨_, List.getElem?_eq_getElem (by omega)⟩
      have hrl := hall _ (xss_mem hr)
      have hcr := hc.at hr
      have hget : (xss rs).getD i [] = r.xs := by rw [List.getD_eq_getElem?_getD, xss, List.getElem?_map, hr]; rfl
      refine WL.indexT Try.underlying22 Try.sizeOf23 hc.outer rfl rfl ⟨hr, rfl⟩ rfl ?_
      intro b_1 o_1 hc_1
      refine WL.load Try.isAgg23 rfl (hc_1 0 _ rfl) rfl (WL.assign rfl rfl (WL.assign rfl rfl (WL.nil (WX.then_normal (WC.seq (WC.region (WL.move rfl rfl (?_))))))))
      refine WL.move rfl rfl (?_)
      refine WL.call eg_39 rfl rfl (contains_calls (RSl.nil (fun _ => True) _ ei none 0) (by decide) _) ?_
      rintro v w3 ⟨rfl, k⟩
      rw [show decide ((i : Int) ∈ ([] : List Int)) = false from rfl]
      have zs_k := k.size
      replace hF := hF.pure k
      replace hO := hO.pure k
      replace hc := hc.pure k
      replace hk := hk.pure k
      replace hcr := hcr.pure k
      refine WL.not rfl rfl (WL.nil (WX.then_normal (WC.cond_true rfl (WC.region (WL.move rfl rfl (WL.move rfl rfl (WL.move rfl rfl (?_))))))))
      refine WL.move rfl rfl (?_)
      have hl3 : ∀ y ∈ three (xss rs) n i, y.length = n := by
        have hp : ∀ q, (prow (wtq q) (xss rs) n i).length = n := fun q => prow_len hall (by rw [xss, List.length_map]; omega)
        intro y hy
        simp only [three, List.mem_cons, List.not_mem_nil, or_false] at hy
        rcases hy with rfl | rfl | rfl <;> exact hp _
      refine WL.call eg_51 rfl rfl (add_calls hF hO hgs3 hl3 hcr hrl lgo i hn) ?_
      rintro v w4 ⟨rfl, hR, hO2, k⟩
      rw [← hget, three_next] at hO2
      have zs_k := k.size
      replace hc := hc.chg k (by first | (intro x h1 h2; exact h2) | (intro x h0 h1 h2; exact hS x h1 h2) | (intro x h0 h1 h2; have h3 : _ = _ := h2; subst h3; exact hSR h1.1) | (intro x h1 h2; have h3 : _ = _ := h2; subst h3; assumption) | (intro x h1 h2; have h3 : _ = _ := h2; exfalso; omega) | (intro b h1 h2 h3; have h4 : _ = _ := h3; (try dsimp only at h2); exfalso; omega) | (intro h1; have h2 : _ = _ := h1; exfalso; omega) | (intro h1; have h2 : _ ≤ _ := h1; exfalso; omega) | (intros; exfalso; (try dsimp only at *); omega) | (intro b h1 h2 h3; exfalso; have h4 := h3.2; (try dsimp only at *); omega) | (intro h1; exfalso; have h4 := h1.2; (try dsimp only at *); omega) | (intro x h1 h2; exfalso; have h4 := h2.2; (try dsimp only at *); omega) | (intro x h1 h2; exact ⟨_, rfl, h2⟩) | (intro x h1 h2; have h4 := h2.1; have h5 := h2.2; exfalso; omega) | (intro x h1 h2; exact h2.1) | (intro x h1 h2; rcases h2.1 with h3 | h3; exact h3; exfalso; omega) | (intro x h1 h2; rcases h2 with h3 | h3; exact h3; exfalso; omega))
      replace hk := hk.chg k (fun x _ h => h)
      replace hF : Fld w4 gf := .inr hR
      replace hO := hO2
      refine WL.nil (WX.block_normal (WX.then_normal (WC.region (WL.add64 rfl rfl (by first | omega | (constructor <;> omega)) rfl (WL.move rfl rfl (WL.nil (?_)))))))
      first
        | (refine WX.loop_next (gs ++ [g]) ⟨rfl, rfl, rfl, rfl, rfl, rfl, ?_, trivial⟩ ⟨by rw [List.length_append]; show gs.length + 1 ≤ 3; omega, ?_, hF, hc, hw⟩ (by rw [List.length_append]; show 3 - (gs.length + 1) < 3 - gs.length; omega)
           ·
             rw [List.length_append]
             rfl
           ·
             rw [List.length_append, show gs.length + [g].length = gs.length + 1 from rfl, ← htl.2, List.replicate_succ']
             exact hO2)
        | exact WX.loop_next (i + 1) ⟨rfl, rfl, rfl, rfl, rfl, rfl, trivial⟩ ⟨by omega, hF, hO, hc, hk⟩ (by show _ - _ < _ - _; omega)
    ·
      refine WL.nil (WX.then_normal (WC.seq (WC.cond_false rfl (WC.exit (WX.then_exit (WX.then_exit (WX.block_here (?_))))))))
      refine WX.then_normal (WC.seq (WC.region (WL.move rfl rfl (WL.assign rfl rfl (WL.nil (WX.then_normal (WC.ret (?_))))))))
      refine WX.ret1 (.inl rfl) Try.results42 rfl ?_
      have hil : i = rs.length := by omega
      subst hil
      refine ⟨_, rfl, ⟨go, gs, rfl, hO, hgs3, hwg⟩, ?_⟩
      exact (hw.mono (M' := fun x => gf ≤ x) (fun x _ h => by have h2 : x = gf := h; omega)).chg hk (fun x h1 h2 => h2)
/-- the three parities of columns -/
theorem make_good {S : Nat → Prop} {w : World} {ac : Option Addr} {cc : Nat} {rs : List Rw} {n : Nat} (hc : RS S w ac cc rs) (h13 : rs.length ≤ 13) (hn : lenC (xss rs) = (n : Int)) :
    Calls Try.prog 21 [.slice ac rs.length cc].toArray w (Ret fun v w' => (∃ (go : Nat) (gs : List Nat), v = .tuple #[.slice (some ⟨go, 0, none⟩) 3 3, vi 0] ∧ OR w' 23 5 go 3 gs n (three (xss rs) n rs.length) [] ∧ gs.length = 3 ∧ w.heap.size ≤ go) ∧ Chg Nob w w') := by
  replace hc := hc.old
  have hw := Chg.refl Nob w
  obtain ⟨m, hm, hm1, hm2, hne, hall⟩ := lenC_some (cols := xss rs) (by omega)
  have hmn : m = n := by omega
  subst hmn
  refine Calls.of_WC Try.func21 rfl Try.ntmps21 (by simp) ?_
  refine WC.seq (WC.region (WL.assign rfl rfl (WL.assign rfl rfl (WL.nil (WX.then_normal (WC.seq (WC.region (?_))))))))
  refine WL.move rfl rfl (?_)
  refine WL.call eg_43 rfl rfl (length_calls hc (by omega)) ?_
  rintro v w1 ⟨rfl, k⟩
  rw [hm]
  have zs_k := k.size
  replace hc := hc.pure k
  replace hw := hw.pure k
  refine WL.assign rfl rfl (WL.nil (WX.then_normal (WC.seq (WC.seq (WC.region (WL.move rfl rfl (WL.len Try.underlying22 rfl rfl (?_))))))))
  refine WL.gtr rfl rfl rfl ?_
  rw [show decide ((rs.length : Int) > 13) = false from decide_eq_false (by omega)]
  refine WL.move rfl rfl (WL.want rfl rfl rfl (WL.move rfl rfl (WL.want rfl rfl rfl (?_))))
  refine WL.lss rfl rfl rfl ?_
  rw [show decide ((m : Int) < 0) = false from decide_eq_false (by omega)]
  refine WL.pickF rfl rfl rfl (WL.nil (WX.then_normal (WC.cond_false rfl (WC.skip (WX.then_normal (WC.seq (WC.region (?_))))))))
  refine WL.bld rfl bldF rfl ?_
  refine WL.box rfl rfl ?_
  intro g_1 w_1 hge_1 hlt_1 hb_1 k_1
  have zs_k_1 := k_1.size
  replace hc := hc.pure k_1
  replace hw := hw.pure k_1
  refine WL.move rfl rfl (WL.move rfl rfl (?_))
  have hF : Fld w_1 g_1 := .inl hb_1
  have zw0 := hw.size
  have hc2 : RS (fun b => b < g_1) w_1 ac cc rs := hc.mono (fun b hb => by have := k_1.size; omega)
  refine WL.call eg_42 rfl rfl (sums_calls hF hc2 (by omega) h13 hall) ?_
  rintro v w2 ⟨⟨go, gs, rfl, hO, hgs, hgo⟩, k⟩
  have zs_k := k.size
  replace hw := hw.chg k (by first | (intro x h1 h2; exact h2) | (intro x h0 h1 h2; exact hS x h1 h2) | (intro x h0 h1 h2; have h3 : _ = _ := h2; subst h3; exact hSR h1.1) | (intro x h1 h2; have h3 : _ = _ := h2; subst h3; assumption) | (intro x h1 h2; have h3 : _ = _ := h2; exfalso; omega) | (intro b h1 h2 h3; have h4 : _ = _ := h3; (try dsimp only at h2); exfalso; omega) | (intro h1; have h2 : _ = _ := h1; exfalso; omega) | (intro h1; have h2 : _ ≤ _ := h1; exfalso; omega) | (intros; exfalso; (try dsimp only at *); omega) | (intro b h1 h2 h3; exfalso; have h4 := h3.2; (try dsimp only at *); omega) | (intro h1; exfalso; have h4 := h1.2; (try dsimp only at *); omega) | (intro x h1 h2; exfalso; have h4 := h2.2; (try dsimp only at *); omega) | (intro x h1 h2; exact ⟨_, rfl, h2⟩) | (intro x h1 h2; have h4 := h2.1; have h5 := h2.2; exfalso; omega) | (intro x h1 h2; exact h2.1) | (intro x h1 h2; rcases h2.1 with h3 | h3; exact h3; exfalso; omega) | (intro x h1 h2; rcases h2 with h3 | h3; exact h3; exfalso; omega))
  refine WL.assign rfl rfl (WL.assign rfl rfl (WL.nil (WX.then_normal (WC.ret (?_)))))
  refine WX.ret2 (.inl rfl) Try.results21 rfl rfl ?_
  exact ⟨_, rfl, ⟨go, gs, rfl, hO, hgs, by omega⟩, hw⟩
theorem make_bad {S : Nat → Prop} {w : World} {ac : Option Addr} {cc : Nat} {rs : List Rw} (hc : RS S w ac cc rs) (hl : rs.length * 24 ≤ 140737488351232) (h : ¬ (rs.length ≤ 13 ∧ 0 ≤ lenC (xss rs))) :
    Calls Try.prog 21 [.slice ac rs.length cc].toArray w (Ret fun v w' => v = .tuple #[.slice none 0 0, vi 1] ∧ Chg Nob w w') := by
  replace hc := hc.old
  have hw := Chg.refl Nob w
  refine Calls.of_WC Try.func21 rfl Try.ntmps21 (by simp) ?_
  refine WC.seq (WC.region (WL.assign rfl rfl (WL.assign rfl rfl (WL.nil (WX.then_normal (WC.seq (WC.region (?_))))))))
  refine WL.move rfl rfl (?_)
  refine WL.call eg_43 rfl rfl (length_calls hc (by omega)) ?_
  rintro v w1 ⟨rfl, k⟩
  have zs_k := k.size
  replace hc := hc.pure k
  replace hw := hw.pure k
  refine WL.assign rfl rfl (WL.nil (WX.then_normal (WC.seq (WC.seq (WC.region (WL.move rfl rfl (WL.len Try.underlying22 rfl rfl (?_))))))))
  refine WL.gtr? rfl rfl rfl (fun h9 => ?_) (fun h9 => ?_)
  ·
    refine WL.move rfl rfl (WL.pass rfl rfl rfl rfl (WL.pass rfl rfl rfl rfl (WL.pickT rfl rfl rfl (WL.nil (WX.then_normal (WC.cond_true rfl (WC.seq (?_))))))))
    refine WC.region (WL.assign rfl rfl (WL.assign rfl rfl (WL.nil (WX.then_normal (WC.ret (WX.then_ret (?_)))))))
    refine WX.ret2 (.inl rfl) Try.results21 rfl rfl ?_
    exact ⟨_, rfl, rfl, hw⟩
  ·
    refine WL.move rfl rfl (WL.want rfl rfl rfl (WL.move rfl rfl (WL.want rfl rfl rfl (?_))))
    refine WL.lss? rfl rfl rfl (fun h12 => ?_) (fun h12 => ?_)
    ·
      refine WL.pickF rfl rfl rfl (WL.nil (WX.then_normal (WC.cond_true rfl (WC.seq (WC.region (WL.assign rfl rfl (WL.assign rfl rfl (?_))))))))
      refine WL.nil (WX.then_normal (WC.ret (WX.then_ret (?_))))
      refine WX.ret2 (.inl rfl) Try.results21 rfl rfl ?_
      exact ⟨_, rfl, rfl, hw⟩
    ·
      refine WL.pickF rfl rfl rfl (WL.nil (WX.then_normal (WC.cond_false rfl (WC.skip (WX.then_normal (WC.seq (WC.region (?_))))))))
      exfalso
      exact h ⟨by omega, by omega⟩
end Go.Proofs.Ytjdbjdgobhjbkaa
namespace Go.Proofs.Ytjdbjdgobhjbkaa
open Go.RowKit Go.HL

theorem xss_orows : ∀ {gs : List Nat} {n : Nat} {ys : List (List UInt8)}, gs.length = ys.length → xss (orows gs n ys) = ys
  | [], n, [], _ => rfl
  | g :: gs, n, y :: ys, h => by
    have ih := xss_orows (gs := gs) (n := n) (ys := ys) (by simpa using h)
    simp only [xss, orows] at ih
    simp [xss, orows, ih]
  | [], n, y :: ys, h => by simp at h
  | g :: gs, n, [], h => by simp at h
theorem make_rs {S : Nat → Prop} {w : World} {ac : Option Addr} {cc : Nat} {rs : List Rw} {n : Nat} (hc : RS S w ac cc rs) (h13 : rs.length ≤ 13) (hn : lenC (xss rs) = (n : Int)) :
    Calls Try.prog 21 [.slice ac rs.length cc].toArray w (Ret fun v w' => (∃ (ao : Option Addr) (c : Nat) (ps : List Rw), v = .tuple #[.slice ao ps.length c, vi 0] ∧ RS (w.heap.size ≤ ·) w' ao c ps ∧ xss ps = three (xss rs) n rs.length) ∧ Chg Nob w w') := by
  refine (make_good hc h13 hn).mono ?_
  rintro e w' ⟨v, rfl, ⟨go, gs, rfl, hO, hg, hgo⟩, hw⟩
  have hl : gs.length = (three (xss rs) n rs.length).length := hO.len
  refine ⟨_, rfl, ⟨some ⟨go, 0, none⟩, 3, orows gs n (three (xss rs) n rs.length), ?_, hO.rs hgo (fun i g h => by have := hO.above i g h; omega), xss_orows hl⟩, hw⟩
  rw [orows_len hl, hg]
/-! the same columns? -/
set_option maxHeartbeats 1000000 in
theorem same_calls {S1 S2 : Nat → Prop} {w : World} {aa ab : Option Addr} {ca cb : Nat} {us vs : List Rw} (ha : RS S1 w aa ca us) (hb : RS S2 w ab cb vs) (hla : us.length ≤ 100000) :
    Calls Try.prog 20 [.slice aa us.length ca, .slice ab vs.length cb].toArray w (Ret fun v w' => v = .bool (decide (xss us = xss vs)) ∧ Chg Nob w w') := by
  replace ha := ha.old
  replace hb := hb.old
  have hw := Chg.refl Nob w
  refine Calls.of_WC Try.func20 rfl Try.ntmps20 (by simp) ?_
  refine WC.seq (WC.region (WL.assign rfl rfl (WL.nil (WX.then_normal (WC.seq (WC.seq (WC.region (?_))))))))
  refine WL.move rfl rfl (WL.len Try.underlying22 rfl rfl (WL.move rfl rfl (WL.len Try.underlying22 rfl rfl (?_))))
  refine WL.neq? rfl rfl rfl (fun h10 => ?_) (fun h10 => ?_)
  ·
    refine WL.nil (WX.then_normal (WC.cond_true rfl (WC.seq (WC.region (WL.assign rfl rfl (WL.nil (WX.then_normal (?_))))))))
    refine WC.ret (WX.then_ret (?_))
    refine WX.ret1 (.inl rfl) Try.results20 rfl ?_
    first
      | (refine ⟨_, rfl, congrArg Value.bool (decide_eq_false (fun h => ?_)).symm, hw⟩
         have h1 : (xss us)[i]? = (xss vs)[i]? := by rw [h]
         rw [xss, xss, List.getElem?_map, List.getElem?_map, hx, hy] at h1
         injection h1 with h1
         exact h27 (by rw [h1]))
      | (refine ⟨_, rfl, congrArg Value.bool (decide_eq_false (fun h => ?_)).symm, hw⟩
         have h1 := congrArg List.length h
         rw [xss, xss, List.length_map, List.length_map] at h1
         omega)
      | (refine ⟨_, rfl, congrArg Value.bool (decide_eq_true ?_).symm, hw⟩
         apply List.ext_getElem?
         intro j
         rw [xss, xss, List.getElem?_map, List.getElem?_map]
         rcases Nat.lt_or_ge j us.length with hj | hj
         ·
           obtain ⟨x, hx⟩ : ∃ x, us[j]? = some x := ⟨_, List.getElem?_eq_getElem hj⟩
           obtain ⟨y, hy⟩ : ∃ y, vs[j]? = some y := ⟨_, List.getElem?_eq_getElem (by omega)⟩
           rw [hx, hy, Option.map_some, Option.map_some, hall j x y (by omega) hx hy]
         ·
           rw [List.getElem?_eq_none (by omega), List.getElem?_eq_none (by omega)])
  ·
    refine WL.nil (WX.then_normal (WC.cond_false rfl (WC.skip (WX.then_normal (WC.seq (WC.seq (WC.region (?_))))))))
    refine WL.assign rfl rfl (WL.nil (WX.then_normal (WC.block (?_))))
    refine WC.loop (σ := Nat) (fun i => [(0, .slice aa us.length ca), (1, .slice ab vs.length cb), (5, vi i)])
      (fun i w' => i ≤ us.length ∧ (∀ (j : Nat) (x y : Rw), j < i → us[j]? = some x → vs[j]? = some y → x.xs = y.xs) ∧ RS (· < w.heap.size) w' aa ca us ∧ RS (· < w.heap.size) w' ab cb vs ∧ Chg Nob w w') (fun i => us.length - i) 0 ⟨rfl, rfl, rfl, trivial⟩ ⟨Nat.zero_le _, fun j x y h => absurd h (by omega), ha, hb, hw⟩ ?_
    clear ha hb hw
    rintro i w2 ⟨hi, hall, ha, hb, hw⟩
    refine WC.seq (WC.seq (WC.region (WL.move rfl rfl (WL.move rfl rfl (WL.len Try.underlying22 rfl rfl (?_))))))
    refine WL.lss? rfl rfl rfl (fun h14 => ?_) (fun h14 => ?_)
    ·
      refine WL.nil (WX.then_normal (WC.cond_true rfl (WC.skip (WX.then_normal (WC.seq (WC.block (WC.seq (?_))))))))
      obtain ⟨x, hx⟩ : ∃ x, us[i]? = some x := ⟨_, List.getElem?_eq_getElem (by omega)⟩
      obtain ⟨y, hy⟩ : ∃ y, vs[i]? = some y := ⟨_, List.getElem?_eq_getElem (by omega)⟩
      have hxr := ha.at hx
      have hyr := hb.at hy
      obtain ⟨b1, o1, rfl⟩ := ha.outer.place hx
      obtain ⟨b2, o2, rfl⟩ := hb.outer.place hy
      refine WC.draw (Nob) [0, 1, 2, 3, 4, 5, 6, 7, 8, 9, 10] [] mixed rfl rfl (fun wd_1 kd_1 zd_1 => ?_)
      have zs_kd_1 := kd_1.size
      replace ha := ha.pure kd_1
      replace hb := hb.pure kd_1
      replace hw := hw.pure kd_1
      replace hxr := hxr.pure kd_1
      replace hyr := hyr.pure kd_1
      apply DQ.step (E' := [(0, _)])
      case ho => rfl
      case hs => exact ⟨rfl, trivial⟩
      case hk => rfl
      case h1 =>
        intro wq_2 kq_2
        refine WL.move rfl rfl (?_)
        refine WL.nil ?_
        exact WX.one ⟨rfl, by first | exact Chg.refl _ _ | assumption⟩
      apply DQ.step (E' := [(5, _)])
      case ho => rfl
      case hs => exact ⟨rfl, trivial⟩
      case hk => rfl
      case h1 =>
        intro wq_3 kq_3
        refine WL.move rfl rfl (?_)
        refine WL.nil ?_
        exact WX.one ⟨rfl, by first | exact Chg.refl _ _ | assumption⟩
      apply DQ.step (E' := [(17, _), (18, _)])
      case ho => rfl
      case hs => exact ⟨rfl, rfl, trivial⟩
      case hk => rfl
      case h1 =>
        intro wq_4 kq_4
        have zs_kq_4 := kq_4.size
        replace ha := ha.pure kq_4
        replace hb := hb.pure kq_4
        replace hw := hw.pure kq_4
        replace hxr := hxr.pure kq_4
        replace hyr := hyr.pure kq_4
        refine WL.indexC ha.outer Try.underlying22 Try.sizeOf23 rfl rfl ⟨hx, rfl⟩ rfl ?_
        refine WL.nil ?_
        exact WX.one ⟨rfl, by first | exact Chg.refl _ _ | assumption⟩
      apply DQ.step (E' := [(19, _)])
      case ho => rfl
      case hs => exact ⟨rfl, trivial⟩
      case hk => rfl
      case h1 =>
        intro wq_5 kq_5
        have zs_kq_5 := kq_5.size
        replace ha := ha.pure kq_5
        replace hb := hb.pure kq_5
        replace hw := hw.pure kq_5
        replace hxr := hxr.pure kq_5
        replace hyr := hyr.pure kq_5
        refine WL.load Try.isAgg23 rfl ((ha.outer.cellsAt hx) 0 _ rfl) rfl (?_)
        refine WL.nil ?_
        exact WX.one ⟨rfl, by first | exact Chg.refl _ _ | assumption⟩
      apply DQ.step (E' := [(20, _)])
      case ho => rfl
      case hs => exact ⟨rfl, trivial⟩
      case hk => rfl
      case h1 =>
        intro wq_6 kq_6
        have zs_kq_6 := kq_6.size
        replace ha := ha.pure kq_6
        replace hb := hb.pure kq_6
        replace hw := hw.pure kq_6
        replace hxr := hxr.pure kq_6
        replace hyr := hyr.pure kq_6
        refine WL.toStr Try.underlying23 Try.underlying5 Try.underlying9 hxr rfl rfl ?_
        refine WL.nil ?_
        exact WX.one ⟨rfl, by first | exact Chg.refl _ _ | assumption⟩
      apply DQ.step (E' := [(1, _)])
      case ho => rfl
      case hs => exact ⟨rfl, trivial⟩
      case hk => rfl
      case h1 =>
        intro wq_7 kq_7
        refine WL.move rfl rfl (?_)
        refine WL.nil ?_
        exact WX.one ⟨rfl, by first | exact Chg.refl _ _ | assumption⟩
      apply DQ.step (E' := [(5, _)])
      case ho => rfl
      case hs => exact ⟨rfl, trivial⟩
      case hk => rfl
      case h1 =>
        intro wq_8 kq_8
        refine WL.move rfl rfl (?_)
        refine WL.nil ?_
        exact WX.one ⟨rfl, by first | exact Chg.refl _ _ | assumption⟩
      apply DQ.step (E' := [(22, _), (23, _)])
      case ho => rfl
      case hs => exact ⟨rfl, rfl, trivial⟩
      case hk => rfl
      case h1 =>
        intro wq_9 kq_9
        have zs_kq_9 := kq_9.size
        replace ha := ha.pure kq_9
        replace hb := hb.pure kq_9
        replace hw := hw.pure kq_9
        replace hxr := hxr.pure kq_9
        replace hyr := hyr.pure kq_9
        refine WL.indexC hb.outer Try.underlying22 Try.sizeOf23 rfl rfl ⟨hy, rfl⟩ rfl ?_
        refine WL.nil ?_
        exact WX.one ⟨rfl, by first | exact Chg.refl _ _ | assumption⟩
      apply DQ.step (E' := [(24, _)])
      case ho => rfl
      case hs => exact ⟨rfl, trivial⟩
      case hk => rfl
      case h1 =>
        intro wq_10 kq_10
        have zs_kq_10 := kq_10.size
        replace ha := ha.pure kq_10
        replace hb := hb.pure kq_10
        replace hw := hw.pure kq_10
        replace hxr := hxr.pure kq_10
        replace hyr := hyr.pure kq_10
        refine WL.load Try.isAgg23 rfl ((hb.outer.cellsAt hy) 0 _ rfl) rfl (?_)
        refine WL.nil ?_
        exact WX.one ⟨rfl, by first | exact Chg.refl _ _ | assumption⟩
      apply DQ.step (E' := [(25, _)])
      case ho => rfl
      case hs => exact ⟨rfl, trivial⟩
      case hk => rfl
      case h1 =>
        intro wq_11 kq_11
        have zs_kq_11 := kq_11.size
        replace ha := ha.pure kq_11
        replace hb := hb.pure kq_11
        replace hw := hw.pure kq_11
        replace hxr := hxr.pure kq_11
        replace hyr := hyr.pure kq_11
        refine WL.toStr Try.underlying23 Try.underlying5 Try.underlying9 hyr rfl rfl ?_
        refine WL.nil ?_
        exact WX.one ⟨rfl, by first | exact Chg.refl _ _ | assumption⟩
      apply DQ.split (E' := [(21, _), (26, _)])
      case ho => rfl
      case hs => exact ⟨rfl, rfl, trivial⟩
      case hk => rfl
      case h1 =>
        intro wq_12 kq_12
        refine WL.sneq rfl rfl rfl ?_
        refine WL.nil ?_
        exact WX.one ⟨rfl, by first | exact Chg.refl _ _ | assumption⟩
      case ht =>
        intro h27
        replace h27 := of_decide_eq_true h27
        refine DQ.done (fun _ => ?_)
        refine DL.done (fun we_13 ke_13 => ?_)
        have zs_ke_13 := ke_13.size
        replace ha := ha.pure ke_13
        replace hb := hb.pure ke_13
        replace hw := hw.pure ke_13
        replace hxr := hxr.pure ke_13
        replace hyr := hyr.pure ke_13
        refine WX.then_normal (WC.cond_true rfl (WC.seq (WC.region (WL.assign rfl rfl (WL.nil (WX.then_normal (WC.ret (?_))))))))
        refine WX.block_ret (WX.then_ret (WX.then_ret (WX.block_ret (WX.then_ret (?_)))))
        refine WX.ret1 (.inl rfl) Try.results20 rfl ?_
        first
          | (refine ⟨_, rfl, congrArg Value.bool (decide_eq_false (fun h => ?_)).symm, hw⟩
             have h1 : (xss us)[i]? = (xss vs)[i]? := by rw [h]
             rw [xss, xss, List.getElem?_map, List.getElem?_map, hx, hy] at h1
             injection h1 with h1
             exact h27 (by rw [h1]))
          | (refine ⟨_, rfl, congrArg Value.bool (decide_eq_false (fun h => ?_)).symm, hw⟩
             have h1 := congrArg List.length h
             rw [xss, xss, List.length_map, List.length_map] at h1
             omega)
          | (refine ⟨_, rfl, congrArg Value.bool (decide_eq_true ?_).symm, hw⟩
             apply List.ext_getElem?
             intro j
             rw [xss, xss, List.getElem?_map, List.getElem?_map]
             rcases Nat.lt_or_ge j us.length with hj | hj
             ·
               obtain ⟨x, hx⟩ : ∃ x, us[j]? = some x := ⟨_, List.getElem?_eq_getElem hj⟩
               obtain ⟨y, hy⟩ : ∃ y, vs[j]? = some y := ⟨_, List.getElem?_eq_getElem (by omega)⟩
               rw [hx, hy, Option.map_some, Option.map_some, hall j x y (by omega) hx hy]
             ·
               rw [List.getElem?_eq_none (by omega), List.getElem?_eq_none (by omega)])
      case hf =>
        intro h27
        replace h27 := of_decide_eq_false h27
        refine DQ.done (fun _ => ?_)
        refine DL.done (fun we_13 ke_13 => ?_)
        have zs_ke_13 := ke_13.size
        replace ha := ha.pure ke_13
        replace hb := hb.pure ke_13
        replace hw := hw.pure ke_13
        replace hxr := hxr.pure ke_13
        replace hyr := hyr.pure ke_13
        refine WX.then_normal (WC.cond_false rfl (WC.skip (WX.block_normal (WX.then_normal (WC.region (WL.move rfl rfl (WL.add64 rfl rfl (by first | omega | (constructor <;> omega)) rfl (?_))))))))
        refine WL.assign rfl rfl (WL.nil (?_))
        refine WX.loop_next (i + 1) ⟨rfl, rfl, rfl, trivial⟩ ⟨by omega, fun j x' y' h h1 h2 => ?_, ha, hb, hw⟩ (by show _ - _ < _ - _; omega)
        rcases Nat.lt_or_ge j i with h3 | h3
        ·
          exact hall j x' y' h3 h1 h2
        ·
          have hji : j = i := by omega
          subst hji
          rw [hx] at h1
          rw [hy] at h2
          injection h1 with h1
          injection h2 with h2
          have h4 := congrArg (fun s : ByteArray => s.data.toList) (Classical.not_not.1 h27)
          rw [← h1, ← h2]
          exact h4
    ·
      refine WL.nil (WX.then_normal (WC.cond_false rfl (WC.exit (WX.then_exit (WX.then_exit (WX.block_here (WX.then_normal (?_))))))))
      refine WC.seq (WC.region (WL.assign rfl rfl (WL.nil (WX.then_normal (WC.ret (?_))))))
      refine WX.ret1 (.inl rfl) Try.results20 rfl ?_
      first
        | (refine ⟨_, rfl, congrArg Value.bool (decide_eq_false (fun h => ?_)).symm, hw⟩
           have h1 : (xss us)[i]? = (xss vs)[i]? := by rw [h]
           rw [xss, xss, List.getElem?_map, List.getElem?_map, hx, hy] at h1
           injection h1 with h1
           exact h27 (by rw [h1]))
        | (refine ⟨_, rfl, congrArg Value.bool (decide_eq_false (fun h => ?_)).symm, hw⟩
           have h1 := congrArg List.length h
           rw [xss, xss, List.length_map, List.length_map] at h1
           omega)
        | (refine ⟨_, rfl, congrArg Value.bool (decide_eq_true ?_).symm, hw⟩
           apply List.ext_getElem?
           intro j
           rw [xss, xss, List.getElem?_map, List.getElem?_map]
           rcases Nat.lt_or_ge j us.length with hj | hj
           ·
             obtain ⟨x, hx⟩ : ∃ x, us[j]? = some x := ⟨_, List.getElem?_eq_getElem hj⟩
             obtain ⟨y, hy⟩ : ∃ y, vs[j]? = some y := ⟨_, List.getElem?_eq_getElem (by omega)⟩
             rw [hx, hy, Option.map_some, Option.map_some, hall j x y (by omega) hx hy]
           ·
             rw [List.getElem?_eq_none (by omega), List.getElem?_eq_none (by omega)])
theorem small_calls {S : Nat → Prop} {w : World} {ao : Option Addr} {c : Nat} {rs : List Rw} (hc : RS S w ao c rs) (hl : rs.length * 24 ≤ 140737488351232 ∧ ∀ r ∈ rs, r.xs.length ≤ 140737488351232) :
    Calls Try.prog 17 [.slice ao rs.length c].toArray w (Ret fun v w' => (∃ b : Bool, v = .bool b) ∧ Chg Nob w w') := by
  replace hc := hc.old
  have hw := Chg.refl Nob w
  have hl1 := hl.1
  refine Calls.of_WC Try.func17 rfl Try.ntmps17 (by simp) ?_
  refine WC.seq (WC.region (WL.assign rfl rfl (WL.nil (WX.then_normal (WC.seq (WC.region (WL.assign rfl rfl (?_))))))))
  refine WL.nil (WX.then_normal (WC.seq (WC.seq (WC.region (WL.assign rfl rfl (WL.nil (WX.then_normal (?_))))))))
  refine WC.block (?_)
  refine WC.loop (σ := Nat × Nat) (fun q => [(0, .slice ao rs.length c), (3, vi q.2), (4, vi q.1)])
    (fun q w' => q.1 ≤ rs.length ∧ q.2 ≤ 140737488353300 ∧ RS (· < w.heap.size) w' ao c rs ∧ Chg Nob w w') (fun q => rs.length - q.1) (0, 0) ⟨rfl, rfl, rfl, trivial⟩ ⟨Nat.zero_le _, by decide, hc, hw⟩ ?_
  clear hc hw
  rintro ⟨i, n⟩ w2 ⟨hi, hn, hc, hw⟩
  dsimp only at hi hn hc hw ⊢
  refine WC.seq (WC.seq (WC.region (WL.move rfl rfl (WL.move rfl rfl (WL.len Try.underlying22 rfl rfl (?_))))))
  refine WL.lss? rfl rfl rfl (fun h8 => ?_) (fun h8 => ?_)
  ·
    refine WL.move rfl rfl (WL.want rfl rfl rfl (WL.move rfl rfl (WL.want rfl rfl rfl (?_))))
    refine WL.leq? rfl rfl rfl (fun h11 => ?_) (fun h11 => ?_)
    ·
      refine WL.pickT rfl rfl rfl (WL.nil (WX.then_normal (WC.cond_true rfl (WC.skip (WX.then_normal (WC.seq (WC.block (?_))))))))
      refine WC.region (WL.move rfl rfl (WL.move rfl rfl (WL.move rfl rfl (?_))))
      obtain ⟨r, hr⟩ : ∃ r, rs[i]? = some r := ⟨_, List.getElem?_eq_getElem (by omega)⟩
      have hrl := hl.2 r (List.mem_of_getElem? hr)
      refine WL.indexT Try.underlying22 Try.sizeOf23 hc.outer rfl rfl ⟨hr, rfl⟩ rfl ?_
      intro b_1 o_1 hc_1
      refine WL.load Try.isAgg23 rfl (hc_1 0 _ rfl) rfl (WL.len Try.underlying23 rfl rfl (WL.add64 rfl rfl (by first | omega | (constructor <;> omega)) rfl (WL.assign rfl rfl (WL.nil (WX.block_normal (WX.then_normal (WC.region (?_))))))))
      refine WL.move rfl rfl (WL.add64 rfl rfl (by first | omega | (constructor <;> omega)) rfl (WL.assign rfl rfl (WL.nil (?_))))
      refine WX.loop_next (i + 1, n + r.xs.length) ⟨rfl, rfl, rfl, trivial⟩ ⟨by dsimp only; omega, by dsimp only; omega, hc, hw⟩ (by show _ - _ < _ - _; omega)
    ·
      refine WL.pickT rfl rfl rfl (WL.nil (WX.then_normal (WC.cond_false rfl (WC.exit (WX.then_exit (WX.then_exit (WX.block_here (?_))))))))
      refine WX.then_normal (WC.seq (WC.region (WL.move rfl rfl (WL.leq rfl rfl rfl (WL.assign rfl rfl (WL.nil (WX.then_normal (?_))))))))
      refine WC.ret (?_)
      refine WX.ret1 (.inl rfl) Try.results17 rfl ?_
      exact ⟨_, rfl, ⟨_, rfl⟩, hw⟩
  ·
    refine WL.move rfl rfl (WL.pass rfl rfl rfl rfl (WL.pass rfl rfl rfl rfl (WL.pickF rfl rfl rfl (WL.nil (WX.then_normal (WC.cond_false rfl (WC.exit (?_))))))))
    refine WX.then_exit (WX.then_exit (WX.block_here (WX.then_normal (WC.seq (WC.region (WL.move rfl rfl (WL.leq rfl rfl rfl (?_))))))))
    refine WL.assign rfl rfl (WL.nil (WX.then_normal (WC.ret (?_))))
    refine WX.ret1 (.inl rfl) Try.results17 rfl ?_
    exact ⟨_, rfl, ⟨_, rfl⟩, hw⟩
set_option maxRecDepth 100000 in
theorem three_small : lenC [[1], [1]] = ((1 : Nat) : Int) ∧ three [[1], [1]] 1 2 = [[0], [3], [5]] := by decide +kernel
set_option maxHeartbeats 1000000 in
theorem known3_calls (w : World) : Calls Try.prog 16 [].toArray w (Ret fun v w' => v = .bool true ∧ Chg Nob w w') := by
  have hw := Chg.refl Nob w
  refine Calls.of_WC Try.func16 rfl Try.ntmps16 (by simp) ?_
  refine WC.seq (WC.region (WL.assign rfl rfl (WL.nil (WX.then_normal (WC.seq (WC.region (?_)))))))
  refine WL.build (e := eb) [1] Try.underlying23 Try.sizeOf5 Try.zeroValue5 rfl rfl rfl (by first | (simp [Value.cells]; done) | (simp [Value.cells] <;> rfl) | (simp [Value.cells, eb, ei, es, ebool, e32, e64]; done)) (by decide) rfl ?_
  intro a_h1 w_h1 h1 l_h1 z_h1 k_h1
  have zs_k_h1 := k_h1.size
  replace hw := hw.pure k_h1
  refine WL.build (e := eb) [1] Try.underlying23 Try.sizeOf5 Try.zeroValue5 rfl rfl rfl (by first | (simp [Value.cells]; done) | (simp [Value.cells] <;> rfl) | (simp [Value.cells, eb, ei, es, ebool, e32, e64]; done)) (by decide) rfl ?_
  intro a_h2 w_h2 h2 l_h2 z_h2 k_h2
  have zs_k_h2 := k_h2.size
  replace hw := hw.pure k_h2
  replace h1 := h1.pure k_h2
  refine WL.build (e := erow) [⟨a_h1, 1, [1]⟩, ⟨a_h2, 1, [1]⟩] Try.underlying22 Try.sizeOf23 Try.zeroValue23 rfl rfl rfl (by first | (simp [Value.cells]; done) | (simp [Value.cells] <;> rfl) | (simp [Value.cells, eb, ei, es, ebool, e32, e64]; done)) (by decide) rfl ?_
  intro a_h3 w_h3 h3 l_h3 z_h3 k_h3
  have zs_k_h3 := k_h3.size
  replace hw := hw.pure k_h3
  replace h1 := h1.pure k_h3
  replace h2 := h2.pure k_h3
  have hc : RS (fun _ => True) w_h3 a_h3 2 [⟨a_h1, 1, [1]⟩, ⟨a_h2, 1, [1]⟩] := by
    refine ⟨h3.rsl.mono (fun _ _ => trivial), fun r hr => ?_⟩
    simp only [List.mem_cons, List.not_mem_nil, or_false] at hr
    rcases hr with rfl | rfl
    ·
      exact h1.rsl.mono (fun _ _ => trivial)
    ·
      exact h2.rsl.mono (fun _ _ => trivial)
  refine WL.call eg_21 rfl rfl (make_rs hc (by show 2 ≤ 13; decide) three_small.1) ?_
  rintro v w1 ⟨⟨ao, c, ps, rfl, hp, hps⟩, k⟩
  have zs_k := k.size
  replace hw := hw.pure k
  replace hp := hp.old
  replace hps : xss ps = [[0], [3], [5]] := hps.trans three_small.2
  refine WL.move rfl rfl (WL.extract rfl rfl rfl (WL.extract rfl rfl rfl (WL.assign rfl rfl (WL.assign rfl rfl (WL.nil (WX.then_normal (WC.seq (?_))))))))
  refine WC.region (WL.move rfl rfl (?_))
  refine WL.eql rfl rfl rfl ?_
  rw [show decide ((0 : Int) = 0) = true from rfl]
  refine WL.move rfl rfl (WL.want rfl rfl rfl (WL.move rfl rfl (WL.want rfl rfl rfl (?_))))
  refine WL.build (e := eb) [0] Try.underlying23 Try.sizeOf5 Try.zeroValue5 rfl rfl rfl (by first | (simp [Value.cells]; done) | (simp [Value.cells] <;> rfl) | (simp [Value.cells, eb, ei, es, ebool, e32, e64]; done)) (by decide) rfl ?_
  intro a_h4 w_h4 h4 l_h4 z_h4 k_h4
  have zs_k_h4 := k_h4.size
  replace hw := hw.pure k_h4
  replace hp := hp.pure k_h4
  refine WL.want rfl rfl rfl (?_)
  refine WL.build (e := eb) [3] Try.underlying23 Try.sizeOf5 Try.zeroValue5 rfl rfl rfl (by first | (simp [Value.cells]; done) | (simp [Value.cells] <;> rfl) | (simp [Value.cells, eb, ei, es, ebool, e32, e64]; done)) (by decide) rfl ?_
  intro a_h5 w_h5 h5 l_h5 z_h5 k_h5
  have zs_k_h5 := k_h5.size
  replace hw := hw.pure k_h5
  replace hp := hp.pure k_h5
  replace h4 := h4.pure k_h5
  refine WL.want rfl rfl rfl (?_)
  refine WL.build (e := eb) [5] Try.underlying23 Try.sizeOf5 Try.zeroValue5 rfl rfl rfl (by first | (simp [Value.cells]; done) | (simp [Value.cells] <;> rfl) | (simp [Value.cells, eb, ei, es, ebool, e32, e64]; done)) (by decide) rfl ?_
  intro a_h6 w_h6 h6 l_h6 z_h6 k_h6
  have zs_k_h6 := k_h6.size
  replace hw := hw.pure k_h6
  replace hp := hp.pure k_h6
  replace h4 := h4.pure k_h6
  replace h5 := h5.pure k_h6
  refine WL.want rfl rfl rfl (?_)
  refine WL.build (e := erow) [⟨a_h4, 1, [0]⟩, ⟨a_h5, 1, [3]⟩, ⟨a_h6, 1, [5]⟩] Try.underlying22 Try.sizeOf23 Try.zeroValue23 rfl rfl rfl (by first | (simp [Value.cells]; done) | (simp [Value.cells] <;> rfl) | (simp [Value.cells, eb, ei, es, ebool, e32, e64]; done)) (by decide) rfl ?_
  intro a_h7 w_h7 h7 l_h7 z_h7 k_h7
  have zs_k_h7 := k_h7.size
  replace hw := hw.pure k_h7
  replace hp := hp.pure k_h7
  replace h4 := h4.pure k_h7
  replace h5 := h5.pure k_h7
  replace h6 := h6.pure k_h7
  refine WL.want rfl rfl rfl (?_)
  have hd : RS (fun _ => True) w_h7 a_h7 3 [⟨a_h4, 1, [0]⟩, ⟨a_h5, 1, [3]⟩, ⟨a_h6, 1, [5]⟩] := by
    refine ⟨h7.rsl.mono (fun _ _ => trivial), fun r hr => ?_⟩
    simp only [List.mem_cons, List.not_mem_nil, or_false] at hr
    rcases hr with rfl | rfl | rfl
    ·
      exact h4.rsl.mono (fun _ _ => trivial)
    ·
      exact h5.rsl.mono (fun _ _ => trivial)
    ·
      exact h6.rsl.mono (fun _ _ => trivial)
  have hp3 : ps.length = 3 := by have := congrArg List.length hps; rw [xss, List.length_map] at this; exact this
  refine WL.call eg_20 rfl rfl (same_calls hp hd (by omega)) ?_
  rintro v w1 ⟨rfl, k⟩
  rw [hps, show decide (([[0], [3], [5]] : List (List UInt8)) = xss [⟨a_h4, 1, [0]⟩, ⟨a_h5, 1, [3]⟩, ⟨a_h6, 1, [5]⟩]) = true from decide_eq_true rfl]
  have zs_k := k.size
  replace hw := hw.pure k
  replace hp := hp.pure k
  refine WL.pickT rfl rfl rfl (WL.assign rfl rfl (WL.nil (WX.then_normal (WC.ret (?_)))))
  refine WX.ret1 (.inl rfl) Try.results16 rfl ?_
  exact ⟨_, rfl, rfl, hw⟩
end Go.Proofs.Ytjdbjdgobhjbkaa
namespace Go.HL
open Go.RowKit
/-- rows of bytes that are gathered, one behind the other -/
structure CR (N n1 : Nat) (w : World) (T : TypeId) (ao : Option Addr) (c : Nat) (rs : List Rw) : Prop where
  outer : Row (fun x => N ≤ x ∧ x < n1) w T erow ao c rs
  inner : ∀ r ∈ rs, RSl (fun x => (N ≤ x ∧ x < n1) ∧ ¬ Eqb ao x) w eb r.ao r.cap r.xs
section
variable {N n1 : Nat} {w w' : World} {T : TypeId} {ao : Option Addr} {c : Nat} {rs : List Rw} {M : Nat → Prop}
theorem CR.nil (N n1 : Nat) (w : World) (T : TypeId) : CR N n1 w T none 0 [] := ⟨Row.nil _ _ _ _, fun r hr => by cases hr⟩
theorem CR.chg (h : CR N n1 w T ao c rs) (k : Chg M w w') (hd : ∀ x, N ≤ x ∧ x < n1 → M x → False) : CR N n1 w' T ao c rs :=
  ⟨h.outer.chg k (fun b _ hs hm => hd b hs hm), fun r hr => (h.inner r hr).chg k (fun b _ hs hm => hd b hs.1 hm)⟩
theorem CR.pure (h : CR N n1 w T ao c rs) (k : Chg Nob w w') : CR N n1 w' T ao c rs := h.chg k (fun _ _ x => x)
theorem CR.lift (h : CR N n1 w T ao c rs) {n2 : Nat} (hn : n1 ≤ n2) : CR N n2 w T ao c rs :=
  ⟨h.outer.mono (fun b hb => ⟨hb.1, by omega⟩), fun r hr => (h.inner r hr).mono (fun b hb => ⟨⟨hb.1.1, by omega⟩, hb.2⟩)⟩
/-- one more, which was made after all others -/
theorem CR.snoc (h : CR N n1 w T ao c rs) {r : Rw} (hr : RSl (fun x => n1 ≤ x ∧ x < w.heap.size) w eb r.ao r.cap r.xs) (hN : N ≤ n1) (hs : n1 ≤ w.heap.size) {ao2 : Option Addr} {c2 : Nat} (ho : Row (fun x => N ≤ x) w' T erow ao2 c2 (rs ++ [r])) (g : Grow (fun x => N ≤ x) w ao w' ao2) :
    CR N w'.heap.size w' T ao2 c2 (rs ++ [r]) := by
  have zs := g.chg.size
  have ho2 : Row (fun x => N ≤ x ∧ x < w'.heap.size) w' T erow ao2 c2 (rs ++ [r]) := ho.lt
  have hat : ∀ x, Eqb ao x → x < n1 := fun x e => (h.outer.at_.eqb e).2
  have hnew : ∀ x, x < w.heap.size → Eqb ao2 x → Eqb ao x := by
    intro x hx e
    rcases g.fr with e1 | e1
    · rw [← e1]; exact e
    · have := e1.eqb e
      omega
  refine ⟨ho2, fun q hq => ?_⟩
  rcases List.mem_append.1 hq with h1 | h1
  · refine (((h.inner q h1).lt).chg g.chg (fun b _ hb hm => hb.1.2 hm.1)).mono (fun b hb => ⟨⟨hb.1.1.1, by omega⟩, fun e => hb.1.2 (hnew b hb.2 e)⟩)
  · simp at h1
    subst h1
    refine (hr.chg g.chg (fun b _ hb hm => by have := hat b hm.1; omega)).mono (fun b hb => ⟨⟨by omega, by omega⟩, fun e => by have := hat b (hnew b hb.2 e); omega⟩)
theorem CR.read (h : CR N n1 w T ao c rs) : RS (fun _ => True) w ao c rs := ⟨h.outer.rsl.mono (fun _ _ => trivial), fun r hr => (h.inner r hr).mono (fun _ _ => trivial)⟩
end
/-! sums of columns -/
def xorL (a b : List UInt8) : List UInt8 := List.zipWith (fun x y => x ^^^ y) a b
theorem xorL_len {a b : List UInt8} (h : b.length = a.length) : (xorL a b).length = a.length := by rw [xorL, List.length_zipWith, h, Nat.min_self]
theorem xorL_at {a b : List UInt8} {k : Nat} {x y : UInt8} (hx : a[k]? = some x) (hy : b[k]? = some y) : (xorL a b)[k]? = some (x ^^^ y) := by rw [xorL, List.getElem?_zipWith, hx, hy]
def xorTo (a b : List UInt8) (k : Nat) : List UInt8 := (xorL a b).take k ++ a.drop k
theorem xorTo_len {a b : List UInt8} {k : Nat} (h : b.length = a.length) (hk : k ≤ a.length) : (xorTo a b k).length = a.length := by
  rw [xorTo, List.length_append, List.length_take, List.length_drop, xorL_len h]
  omega
theorem xorTo_at {a b : List UInt8} {k : Nat} (h : b.length = a.length) (hk : k < a.length) : ∃ x y, a[k]? = some x ∧ b[k]? = some y ∧ (xorTo a b k)[k]? = some x ∧ (xorTo a b k).set k (x ^^^ y) = xorTo a b (k + 1) := by
  have hp : a[k]? = some a[k] := List.getElem?_eq_getElem hk
  have hc : b[k]? = some b[k] := List.getElem?_eq_getElem (by omega)
  refine ⟨a[k], b[k], hp, hc, ?_, ?_⟩
  · rw [xorTo, List.getElem?_append_right (by rw [List.length_take]; omega), List.length_take, xorL_len h, Nat.min_eq_left (by omega), Nat.sub_self, List.getElem?_drop, Nat.add_zero, hp]
  · have hl : ((xorL a b).take k).length = k := by rw [List.length_take, xorL_len h]; omega
    rw [xorTo, xorTo, List.set_append_right _ _ (by omega), hl, Nat.sub_self, List.drop_eq_getElem_cons hk, List.set_cons_zero, List.take_add_one, xorL_at hp hc]
    simp
theorem xorTo_end {a b : List UInt8} (h : b.length = a.length) : xorTo a b a.length = xorL a b := by
  rw [xorTo, List.take_of_length_le (by rw [xorL_len h]; exact Nat.le_refl _), List.drop_length, List.append_nil]
/-- a parity's byte -/
def px (wt : Nat → UInt8) (cols : List (List UInt8)) (k : Nat) : Nat → UInt8
  | 0 => 0
  | i + 1 => px wt cols k i ^^^ mul (wt i) ((cols.getD i []).getD k 0)
theorem prow_at {wt : Nat → UInt8} {cols : List (List UInt8)} {n : Nat} (h : ∀ d ∈ cols, d.length = n) {k : Nat} (hk : k < n) : ∀ {i : Nat}, i ≤ cols.length → (prow wt cols n i)[k]? = some (px wt cols k i) := by
  intro i
  induction i with
  | zero => intro _; rw [prow, List.getElem?_replicate, if_pos hk]; rfl
  | succ i ih =>
    intro hi
    have h2 : (cols.getD i []).length = n := by
      rw [List.getD_eq_getElem?_getD, List.getElem?_eq_getElem (by omega)]
      exact h _ (List.getElem_mem _)
    have h3 : (cols.getD i [])[k]? = some ((cols.getD i []).getD k 0) := by
      rw [List.getD_eq_getElem?_getD (l := cols.getD i []), List.getElem?_eq_getElem (by omega)]
      rfl
    rw [prow, addRow_at (ih (by omega)) h3]
    rfl
theorem px_sum {wt : Nat → UInt8} {a b c : List (List UInt8)} {k m : Nat} (h : ∀ i, i < m → (c.getD i []).getD k 0 = (a.getD i []).getD k 0 ^^^ (b.getD i []).getD k 0) : ∀ {i : Nat}, i ≤ m → px wt c k i = px wt a k i ^^^ px wt b k i := by
  intro i
  induction i with
  | zero => intro _; show (0 : UInt8) = 0 ^^^ 0; decide
  | succ i ih =>
    intro hi
    rw [px, px, px, ih (by omega), h i (by omega), mul_xor, xor4]
end Go.HL
