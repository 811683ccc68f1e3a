import Derived.Test.YtjdbjdgobhjbkaaFn
namespace Go.Proofs.Ytjdbjdgobhjbkaa
open Go.RowKit Go.HL

theorem bytes_eq {a b : List UInt8} : (⟨a.toArray⟩ : ByteArray) = ⟨b.toArray⟩ ↔ a = b := by simp
theorem SolR.bad {rows : List (List UInt8)} {rgt out : List UInt8} {e : Int} (h : SolR rows rgt out e) (hs : ¬ ShapeOk rows rgt) : out = [] ∧ e = 1 := by
  rcases h with ⟨_, h1, h2⟩ | ⟨h1, _⟩ | ⟨h1, _⟩
  · exact ⟨h1, h2⟩
  · exact absurd h1 hs
  · exact absurd h1 hs
/-- a product of given unknowns -/
theorem SolR.holds {rows : List (List UInt8)} {rgt out x : List UInt8} (h : SolR rows rgt out 0) (hx : x.length = rows.length) (hp : ∀ i, i < rows.length → sumF rows.length (fun j => mul (fn rows i j) (x.getD j 0)) = rgt.getD i 0) : out = x := by
  rcases h with ⟨_, _, h1⟩ | ⟨_, _, hl, h1⟩ | ⟨_, h1, _⟩
  · exact absurd h1 (by decide)
  · exact getD_ext (hl.trans hx.symm) (fun i hi => ((h1 (fun j => x.getD j 0)).1 hp i (by omega)).symm)
  · exact absurd h1 (by decide)
theorem SolR.miss2 {rows : List (List UInt8)} {rgt out r2 o2 : List UInt8} {e2 : Int} (h : SolR rows rgt out 7) (k : SolR rows r2 o2 e2) (hs : ShapeOk rows r2) : o2 = [] ∧ e2 = 7 := by
  rcases h with ⟨_, _, h1⟩ | ⟨_, h1, _⟩ | ⟨_, _, _, y, ⟨j, hj, hy⟩, hK⟩
  · exact absurd h1 (by decide)
  · exact absurd h1 (by decide)
  · rcases k with ⟨k1, _⟩ | ⟨_, _, _, k1⟩ | ⟨_, k1, k2, _⟩
    · exact absurd hs k1
    · exact absurd (ker_uniq k1 hK hj) hy
    · exact ⟨k2, k1⟩
set_option maxHeartbeats 4000000 in
theorem FieldHolds_calls {w : World} {c cx : Nat} {ao ax : Option Addr} {rs : List Rw} {xs : List UInt8} (h : RS (· < w.heap.size) w ao c rs) (hx : RSl (· < w.heap.size) w eb ax cx xs) (hl1 : rs.length ≤ 9223372036854775807) (hl2 : xs.length ≤ 9223372036854775807) (hl3 : ∀ r ∈ rs, r.xs.length ≤ 9223372036854775807) :
    Calls Try.prog 4 [.slice ao rs.length c, .slice ax xs.length cx].toArray w (Ret fun v w' => v = .bool true ∧ Chg Nob w w') := by
  have hw := Chg.refl Nob w
  have hml := mx_len rs
  refine Calls.of_WC Try.func4 rfl Try.ntmps4 (by simp) ?_
  refine WC.seq (WC.region (WL.assign rfl rfl (WL.nil (WX.then_normal (WC.seq (WC.seq (WC.region (?_))))))))
  refine WL.call eg_11 rfl rfl (known2_calls _) ?_
  rintro v w1 ⟨rfl, k1⟩
  have zs_k1 := k1.size
  replace h := h.pure k1
  replace hx := hx.pure k1
  replace hw := hw.pure k1
  refine WL.not rfl rfl (WL.nil (WX.then_normal (WC.cond_false rfl (WC.skip (WX.then_normal (WC.seq (WC.region (?_))))))))
  refine WL.move rfl rfl (WL.len Try.underlying22 rfl rfl (WL.assign rfl rfl (WL.nil (WX.then_normal (WC.seq (WC.region (?_)))))))
  refine WL.call eg_13 rfl rfl (fresh_calls _) ?_
  rintro v w1 ⟨⟨gf, rfl, hF, hgf⟩, k1⟩
  have zs_k1 := k1.size
  replace h := h.pure k1
  replace hx := hx.pure k1
  replace hw := hw.pure k1
  have hgw : w.heap.size ≤ gf := by have := hw.size; have := k1.size; omega
  refine WL.assign rfl rfl (WL.nil (WX.then_normal (WC.seq (WC.region (WL.assign rfl rfl (WL.nil (WX.then_normal (?_))))))))
  refine WC.seq (WC.seq (WC.region (WL.assign rfl rfl (WL.nil (WX.then_normal (WC.block (?_)))))))
  refine WC.loop (σ := Nat × (Option Addr × Nat × List UInt8)) (fun q => [(0, .slice ao rs.length c), (1, .slice ax xs.length cx), (5, vi rs.length), (6, .pointer (some ⟨gf, 0, none⟩)), (7, .slice q.2.1 q.2.2.2.length q.2.2.1), (8, vi (q.1 : Int))])
    (fun q w' => (q.1 ≤ rs.length ∧ (q.1 = 0 ∨ xs.length = rs.length ∧ rs.length ≤ 8)) ∧ (q.2.2.2.length = q.1 ∧ (∀ j, j < q.1 → q.2.2.2.getD j 0 = sumF rs.length (fun k => mul (fn (mx rs) j k) (xs.getD k 0))) ∧ ∀ j r, j < q.1 → rs[j]? = some r → r.xs.length = rs.length) ∧ Row (fun b => gf < b) w' 5 eb q.2.1 q.2.2.1 q.2.2.2 ∧ Fld w' gf ∧ RS (· < w.heap.size) w' ao c rs ∧ RSl (· < w.heap.size) w' eb ax cx xs ∧ Chg Nob w w') (fun q => rs.length - q.1) (0, none, 0, []) ⟨rfl, rfl, rfl, rfl, rfl, rfl, trivial⟩ ⟨⟨Nat.zero_le _, .inl rfl⟩, ⟨rfl, fun j hj => absurd hj (Nat.not_lt_zero j), fun j r hj => absurd hj (Nat.not_lt_zero j)⟩, Row.nil _ _ _ _, hF, h, hx, hw⟩ ?_
  clear hF h hx hw
  rintro ⟨i, aq, cq, rgt⟩ w1 ⟨⟨hi, hi0⟩, ⟨hql, hqv, hqr⟩, hq, hF, h, hx, hw⟩
  simp only at hi hi0 hql hqv hqr hq
  dsimp only
  have lgf := hF.lt
  refine WC.seq (WC.seq (WC.region (WL.move rfl rfl (WL.move rfl rfl (?_)))))
  refine WL.lss? rfl rfl rfl (fun h21 => ?_) (fun h21 => ?_)
  ·
    refine WL.nil (WX.then_normal (WC.cond_true rfl (WC.skip (WX.then_normal (WC.seq (WC.block (WC.seq (?_))))))))
    refine WC.seq (WC.region (WL.move rfl rfl (WL.move rfl rfl (?_))))
    obtain ⟨r, hri⟩ : ∃ r, rs[i]? = some r := ⟨_, List.getElem?_eq_getElem (by omega)⟩
    have hrl3 := hl3 r (List.mem_of_getElem? hri)
    refine WL.indexT (e := erow) Try.underlying22 Try.sizeOf23 h.outer rfl rfl ⟨hri, rfl⟩ rfl ?_
    intro bb oo hcc
    refine WL.load Try.isAgg23 rfl (hcc 0 _ rfl) rfl ?_
    refine WL.len Try.underlying23 rfl rfl (WL.move rfl rfl (?_))
    refine WL.neq? rfl rfl rfl (fun h30 => ?_) (fun h30 => ?_)
    ·
      refine WL.move rfl rfl (WL.pass rfl rfl rfl rfl (WL.pass rfl rfl rfl rfl (WL.pass rfl rfl rfl rfl (WL.pass rfl rfl rfl rfl (WL.pickT rfl rfl rfl (WL.move rfl rfl (WL.pass rfl rfl rfl rfl (?_))))))))
      refine WL.pass rfl rfl rfl rfl (WL.pickT rfl rfl rfl (WL.nil (WX.then_normal (WC.cond_true rfl (WC.seq (WC.region (WL.assign rfl rfl (?_))))))))
      refine WL.nil (WX.then_normal (WC.ret (WX.then_ret (WX.block_ret (WX.then_ret (WX.then_ret (WX.block_ret (?_))))))))
      refine WX.then_ret (?_)
      refine WX.ret1 (.inl rfl) Try.results4 rfl ?_
      exact ⟨_, rfl, rfl, hw⟩
    ·
      refine WL.move rfl rfl (WL.want rfl rfl rfl (WL.move rfl rfl (WL.want rfl rfl rfl (WL.len Try.underlying23 rfl rfl (WL.want rfl rfl rfl (WL.move rfl rfl (WL.want rfl rfl rfl (?_))))))))
      refine WL.neq? rfl rfl rfl (fun h35 => ?_) (fun h35 => ?_)
      ·
        refine WL.pickF rfl rfl rfl (WL.move rfl rfl (WL.pass rfl rfl rfl rfl (WL.pass rfl rfl rfl rfl (WL.pickT rfl rfl rfl (WL.nil (WX.then_normal (WC.cond_true rfl (?_))))))))
        refine WC.seq (WC.region (WL.assign rfl rfl (WL.nil (WX.then_normal (WC.ret (WX.then_ret (WX.block_ret (?_))))))))
        refine WX.then_ret (WX.then_ret (WX.block_ret (WX.then_ret (?_))))
        refine WX.ret1 (.inl rfl) Try.results4 rfl ?_
        exact ⟨_, rfl, rfl, hw⟩
      ·
        refine WL.pickF rfl rfl rfl (WL.move rfl rfl (WL.want rfl rfl rfl (WL.move rfl rfl (WL.want rfl rfl rfl (?_)))))
        refine WL.gtr? rfl rfl rfl (fun h39 => ?_) (fun h39 => ?_)
        ·
          refine WL.pickF rfl rfl rfl (WL.nil (WX.then_normal (WC.cond_true rfl (WC.seq (WC.region (WL.assign rfl rfl (WL.nil (?_))))))))
          refine WX.then_normal (WC.ret (WX.then_ret (WX.block_ret (WX.then_ret (WX.then_ret (WX.block_ret (WX.then_ret (?_))))))))
          refine WX.ret1 (.inl rfl) Try.results4 rfl ?_
          exact ⟨_, rfl, rfl, hw⟩
        ·
          refine WL.pickF rfl rfl rfl (WL.nil (WX.then_normal (WC.cond_false rfl (WC.skip (WX.then_normal (WC.seq (WC.region (?_))))))))
          refine WL.assign rfl rfl (WL.nil (WX.then_normal (WC.seq (WC.seq (WC.region (WL.assign rfl rfl (WL.nil (?_))))))))
          refine WX.then_normal (WC.block (?_))
          have hrl : r.xs.length = rs.length := by omega
          have hxl : xs.length = rs.length := by omega
          have hn8 : rs.length ≤ 8 := by omega
          refine WC.loop (σ := Nat) (fun k => [(0, .slice ao rs.length c), (1, .slice ax xs.length cx), (5, vi rs.length), (6, .pointer (some ⟨gf, 0, none⟩)), (7, .slice aq rgt.length cq), (8, vi (i : Int)), (9, v8 (sumF k (fun k => mul (fn (mx rs) i k) (xs.getD k 0)))), (10, vi (k : Int))])
            (fun k w' => k ≤ rs.length ∧ Row (fun b => gf < b) w' 5 eb aq cq rgt ∧ Fld w' gf ∧ RS (· < w.heap.size) w' ao c rs ∧ RSl (· < w.heap.size) w' eb ax cx xs ∧ Chg Nob w w') (fun k => rs.length - k) 0 ⟨rfl, rfl, rfl, rfl, rfl, rfl, rfl, rfl, trivial⟩ ⟨Nat.zero_le _, hq, hF, h, hx, hw⟩ ?_
          clear hF h hx hw hq
          rintro k w2 ⟨hk, hq, hF, h, hx, hw⟩
          have lgf := hF.lt
          refine WC.seq (WC.seq (WC.region (WL.move rfl rfl (WL.move rfl rfl (?_)))))
          refine WL.lss? rfl rfl rfl (fun h43 => ?_) (fun h43 => ?_)
          ·
            refine WL.nil (WX.then_normal (WC.cond_true rfl (WC.skip (WX.then_normal (WC.seq (WC.block (?_)))))))
            obtain ⟨a, ha⟩ : ∃ a, r.xs[k]? = some a := ⟨_, List.getElem?_eq_getElem (by omega)⟩
            obtain ⟨b, hb⟩ : ∃ b, xs[k]? = some b := ⟨_, List.getElem?_eq_getElem (by omega)⟩
            have hfa : fn (mx rs) i k = a := by rw [fn_mx hri, List.getD_eq_getElem?_getD, ha]; rfl
            have hxb : xs.getD k 0 = b := by rw [List.getD_eq_getElem?_getD, hb]; rfl
            obtain ⟨ob, oo2, ho⟩ := h.outer.place hri
            obtain ⟨ib, io, hio⟩ := (h.at hri).place ha
            obtain ⟨xb, xo, hxo⟩ := hx.place hb
            refine WC.draw (fun b => b = gf) [0, 1, 2, 3, 4, 5, 6, 7, 8, 9, 10, 11, 12] [13, 14, 15] mixed rfl rfl (fun wd_1 kd_1 zd_1 => ?_)
            have zs_kd_1 := kd_1.size
            replace hq := hq.pure kd_1
            replace hF := hF.pure kd_1
            replace h := h.pure kd_1
            replace hx := hx.pure kd_1
            replace hw := hw.pure kd_1
            apply DQ.step (E' := [(9, _)])
            case ho => rfl
            case hs => exact ⟨rfl, trivial⟩
            case hk => rfl
            case h1 =>
              intro wq_3 kq_3
              refine WL.move rfl rfl (?_)
              refine WL.nil ?_
              exact WX.one ⟨rfl, by first | exact Chg.refl _ _ | assumption⟩
            apply DQ.step (E' := [(6, _)])
            case ho => rfl
            case hs => exact ⟨rfl, trivial⟩
            case hk => rfl
            case h1 =>
              intro wq_4 kq_4
              refine WL.move rfl rfl (?_)
              refine WL.nil ?_
              exact WX.one ⟨rfl, by first | exact Chg.refl _ _ | assumption⟩
            apply DQ.step (E' := [(0, _)])
            case ho => rfl
            case hs => exact ⟨rfl, trivial⟩
            case hk => rfl
            case h1 =>
              intro wq_5 kq_5
              refine WL.move rfl rfl (?_)
              refine WL.nil ?_
              exact WX.one ⟨rfl, by first | exact Chg.refl _ _ | assumption⟩
            apply DQ.step (E' := [(8, _)])
            case ho => rfl
            case hs => exact ⟨rfl, trivial⟩
            case hk => rfl
            case h1 =>
              intro wq_6 kq_6
              refine WL.move rfl rfl (?_)
              refine WL.nil ?_
              exact WX.one ⟨rfl, by first | exact Chg.refl _ _ | assumption⟩
            apply DQ.step (E' := [(48, _), (49, _)])
            case ho => rfl
            case hs => exact ⟨rfl, rfl, trivial⟩
            case hk => rfl
            case h1 =>
              intro wq_7 kq_7
              have zs_kq_7 := kq_7.size
              replace hq := hq.chg kq_7 (by first | (intro x h1 h2; exact h2) | (intro x h1 h2; have h3 : _ = _ := h2; exfalso; omega) | (intro b h1 h2 h3; have h4 : _ = _ := h3; (try dsimp only at h2); exfalso; omega) | (intro h1; have h2 : _ = _ := h1; exfalso; omega) | (intros; exfalso; (try dsimp only at *); omega) | (intro b h1 h2 h3; exfalso; have h4 := h3.2; (try dsimp only at *); omega) | (intro h1; exfalso; have h4 := h1.2; (try dsimp only at *); omega))
              replace h := h.chg kq_7 (by first | (intro x h1 h2; exact h2) | (intro x h1 h2; have h3 : _ = _ := h2; exfalso; omega) | (intro b h1 h2 h3; have h4 : _ = _ := h3; (try dsimp only at h2); exfalso; omega) | (intro h1; have h2 : _ = _ := h1; exfalso; omega) | (intros; exfalso; (try dsimp only at *); omega) | (intro b h1 h2 h3; exfalso; have h4 := h3.2; (try dsimp only at *); omega) | (intro h1; exfalso; have h4 := h1.2; (try dsimp only at *); omega))
              replace hx := hx.chg kq_7 (by first | (intro x h1 h2; exact h2) | (intro x h1 h2; have h3 : _ = _ := h2; exfalso; omega) | (intro b h1 h2 h3; have h4 : _ = _ := h3; (try dsimp only at h2); exfalso; omega) | (intro h1; have h2 : _ = _ := h1; exfalso; omega) | (intros; exfalso; (try dsimp only at *); omega) | (intro b h1 h2 h3; exfalso; have h4 := h3.2; (try dsimp only at *); omega) | (intro h1; exfalso; have h4 := h1.2; (try dsimp only at *); omega))
              replace hw := hw.chg kq_7 (by first | (intro x h1 h2; exact h2) | (intro x h1 h2; have h3 : _ = _ := h2; exfalso; omega) | (intro b h1 h2 h3; have h4 : _ = _ := h3; (try dsimp only at h2); exfalso; omega) | (intro h1; have h2 : _ = _ := h1; exfalso; omega) | (intros; exfalso; (try dsimp only at *); omega) | (intro b h1 h2 h3; exfalso; have h4 := h3.2; (try dsimp only at *); omega) | (intro h1; exfalso; have h4 := h1.2; (try dsimp only at *); omega))
              have hO := h.outer
              rw [ho] at hO
              refine WL.indexC (e := erow) hO Try.underlying22 Try.sizeOf23 (by show some (Value.slice ao _ _) = _; rw [ho]) rfl ⟨hri, rfl⟩ rfl ?_
              refine WL.nil ?_
              exact WX.one ⟨rfl, by first | exact Chg.refl _ _ | assumption⟩
            apply DQ.step (E' := [(50, _)])
            case ho => rfl
            case hs => exact ⟨rfl, trivial⟩
            case hk => rfl
            case h1 =>
              intro wq_8 kq_8
              have zs_kq_8 := kq_8.size
              replace hq := hq.chg kq_8 (by first | (intro x h1 h2; exact h2) | (intro x h1 h2; have h3 : _ = _ := h2; exfalso; omega) | (intro b h1 h2 h3; have h4 : _ = _ := h3; (try dsimp only at h2); exfalso; omega) | (intro h1; have h2 : _ = _ := h1; exfalso; omega) | (intros; exfalso; (try dsimp only at *); omega) | (intro b h1 h2 h3; exfalso; have h4 := h3.2; (try dsimp only at *); omega) | (intro h1; exfalso; have h4 := h1.2; (try dsimp only at *); omega))
              replace h := h.chg kq_8 (by first | (intro x h1 h2; exact h2) | (intro x h1 h2; have h3 : _ = _ := h2; exfalso; omega) | (intro b h1 h2 h3; have h4 : _ = _ := h3; (try dsimp only at h2); exfalso; omega) | (intro h1; have h2 : _ = _ := h1; exfalso; omega) | (intros; exfalso; (try dsimp only at *); omega) | (intro b h1 h2 h3; exfalso; have h4 := h3.2; (try dsimp only at *); omega) | (intro h1; exfalso; have h4 := h1.2; (try dsimp only at *); omega))
              replace hx := hx.chg kq_8 (by first | (intro x h1 h2; exact h2) | (intro x h1 h2; have h3 : _ = _ := h2; exfalso; omega) | (intro b h1 h2 h3; have h4 : _ = _ := h3; (try dsimp only at h2); exfalso; omega) | (intro h1; have h2 : _ = _ := h1; exfalso; omega) | (intros; exfalso; (try dsimp only at *); omega) | (intro b h1 h2 h3; exfalso; have h4 := h3.2; (try dsimp only at *); omega) | (intro h1; exfalso; have h4 := h1.2; (try dsimp only at *); omega))
              replace hw := hw.chg kq_8 (by first | (intro x h1 h2; exact h2) | (intro x h1 h2; have h3 : _ = _ := h2; exfalso; omega) | (intro b h1 h2 h3; have h4 : _ = _ := h3; (try dsimp only at h2); exfalso; omega) | (intro h1; have h2 : _ = _ := h1; exfalso; omega) | (intros; exfalso; (try dsimp only at *); omega) | (intro b h1 h2 h3; exfalso; have h4 := h3.2; (try dsimp only at *); omega) | (intro h1; exfalso; have h4 := h1.2; (try dsimp only at *); omega))
              have hO := h.outer
              rw [ho] at hO
              refine WL.load Try.isAgg23 rfl ((hO.cellsAt hri) 0 _ rfl) rfl ?_
              refine WL.nil ?_
              exact WX.one ⟨rfl, by first | exact Chg.refl _ _ | assumption⟩
            apply DQ.step (E' := [(10, _)])
            case ho => rfl
            case hs => exact ⟨rfl, trivial⟩
            case hk => rfl
            case h1 =>
              intro wq_9 kq_9
              refine WL.move rfl rfl (?_)
              refine WL.nil ?_
              exact WX.one ⟨rfl, by first | exact Chg.refl _ _ | assumption⟩
            apply DQ.step (E' := [(51, _), (52, _)])
            case ho => rfl
            case hs => exact ⟨rfl, rfl, trivial⟩
            case hk => rfl
            case h1 =>
              intro wq_10 kq_10
              have zs_kq_10 := kq_10.size
              replace hq := hq.chg kq_10 (by first | (intro x h1 h2; exact h2) | (intro x h1 h2; have h3 : _ = _ := h2; exfalso; omega) | (intro b h1 h2 h3; have h4 : _ = _ := h3; (try dsimp only at h2); exfalso; omega) | (intro h1; have h2 : _ = _ := h1; exfalso; omega) | (intros; exfalso; (try dsimp only at *); omega) | (intro b h1 h2 h3; exfalso; have h4 := h3.2; (try dsimp only at *); omega) | (intro h1; exfalso; have h4 := h1.2; (try dsimp only at *); omega))
              replace h := h.chg kq_10 (by first | (intro x h1 h2; exact h2) | (intro x h1 h2; have h3 : _ = _ := h2; exfalso; omega) | (intro b h1 h2 h3; have h4 : _ = _ := h3; (try dsimp only at h2); exfalso; omega) | (intro h1; have h2 : _ = _ := h1; exfalso; omega) | (intros; exfalso; (try dsimp only at *); omega) | (intro b h1 h2 h3; exfalso; have h4 := h3.2; (try dsimp only at *); omega) | (intro h1; exfalso; have h4 := h1.2; (try dsimp only at *); omega))
              replace hx := hx.chg kq_10 (by first | (intro x h1 h2; exact h2) | (intro x h1 h2; have h3 : _ = _ := h2; exfalso; omega) | (intro b h1 h2 h3; have h4 : _ = _ := h3; (try dsimp only at h2); exfalso; omega) | (intro h1; have h2 : _ = _ := h1; exfalso; omega) | (intros; exfalso; (try dsimp only at *); omega) | (intro b h1 h2 h3; exfalso; have h4 := h3.2; (try dsimp only at *); omega) | (intro h1; exfalso; have h4 := h1.2; (try dsimp only at *); omega))
              replace hw := hw.chg kq_10 (by first | (intro x h1 h2; exact h2) | (intro x h1 h2; have h3 : _ = _ := h2; exfalso; omega) | (intro b h1 h2 h3; have h4 : _ = _ := h3; (try dsimp only at h2); exfalso; omega) | (intro h1; have h2 : _ = _ := h1; exfalso; omega) | (intros; exfalso; (try dsimp only at *); omega) | (intro b h1 h2 h3; exfalso; have h4 := h3.2; (try dsimp only at *); omega) | (intro h1; exfalso; have h4 := h1.2; (try dsimp only at *); omega))
              have hI := h.at hri
              rw [hio] at hI
              refine WL.indexC (e := eb) hI Try.underlying23 Try.sizeOf5 (by show some (Value.slice r.ao _ _) = _; rw [hio]) rfl ⟨ha, rfl⟩ rfl ?_
              refine WL.nil ?_
              exact WX.one ⟨rfl, by first | exact Chg.refl _ _ | assumption⟩
            apply DQ.step (E' := [(53, _)])
            case ho => rfl
            case hs => exact ⟨rfl, trivial⟩
            case hk => rfl
            case h1 =>
              intro wq_11 kq_11
              have zs_kq_11 := kq_11.size
              replace hq := hq.chg kq_11 (by first | (intro x h1 h2; exact h2) | (intro x h1 h2; have h3 : _ = _ := h2; exfalso; omega) | (intro b h1 h2 h3; have h4 : _ = _ := h3; (try dsimp only at h2); exfalso; omega) | (intro h1; have h2 : _ = _ := h1; exfalso; omega) | (intros; exfalso; (try dsimp only at *); omega) | (intro b h1 h2 h3; exfalso; have h4 := h3.2; (try dsimp only at *); omega) | (intro h1; exfalso; have h4 := h1.2; (try dsimp only at *); omega))
              replace h := h.chg kq_11 (by first | (intro x h1 h2; exact h2) | (intro x h1 h2; have h3 : _ = _ := h2; exfalso; omega) | (intro b h1 h2 h3; have h4 : _ = _ := h3; (try dsimp only at h2); exfalso; omega) | (intro h1; have h2 : _ = _ := h1; exfalso; omega) | (intros; exfalso; (try dsimp only at *); omega) | (intro b h1 h2 h3; exfalso; have h4 := h3.2; (try dsimp only at *); omega) | (intro h1; exfalso; have h4 := h1.2; (try dsimp only at *); omega))
              replace hx := hx.chg kq_11 (by first | (intro x h1 h2; exact h2) | (intro x h1 h2; have h3 : _ = _ := h2; exfalso; omega) | (intro b h1 h2 h3; have h4 : _ = _ := h3; (try dsimp only at h2); exfalso; omega) | (intro h1; have h2 : _ = _ := h1; exfalso; omega) | (intros; exfalso; (try dsimp only at *); omega) | (intro b h1 h2 h3; exfalso; have h4 := h3.2; (try dsimp only at *); omega) | (intro h1; exfalso; have h4 := h1.2; (try dsimp only at *); omega))
              replace hw := hw.chg kq_11 (by first | (intro x h1 h2; exact h2) | (intro x h1 h2; have h3 : _ = _ := h2; exfalso; omega) | (intro b h1 h2 h3; have h4 : _ = _ := h3; (try dsimp only at h2); exfalso; omega) | (intro h1; have h2 : _ = _ := h1; exfalso; omega) | (intros; exfalso; (try dsimp only at *); omega) | (intro b h1 h2 h3; exfalso; have h4 := h3.2; (try dsimp only at *); omega) | (intro h1; exfalso; have h4 := h1.2; (try dsimp only at *); omega))
              have hI := h.at hri
              rw [hio] at hI
              refine WL.load Try.isAgg5 rfl ((hI.cellsAt ha) 0 _ rfl) rfl ?_
              refine WL.nil ?_
              exact WX.one ⟨rfl, by first | exact Chg.refl _ _ | assumption⟩
            apply DQ.step (E' := [(1, _)])
            case ho => rfl
            case hs => exact ⟨rfl, trivial⟩
            case hk => rfl
            case h1 =>
              intro wq_12 kq_12
              refine WL.move rfl rfl (?_)
              refine WL.nil ?_
              exact WX.one ⟨rfl, by first | exact Chg.refl _ _ | assumption⟩
            apply DQ.step (E' := [(10, _)])
            case ho => rfl
            case hs => exact ⟨rfl, trivial⟩
            case hk => rfl
            case h1 =>
              intro wq_13 kq_13
              refine WL.move rfl rfl (?_)
              refine WL.nil ?_
              exact WX.one ⟨rfl, by first | exact Chg.refl _ _ | assumption⟩
            apply DQ.step (E' := [(55, _), (56, _)])
            case ho => rfl
            case hs => exact ⟨rfl, rfl, trivial⟩
            case hk => rfl
            case h1 =>
              intro wq_14 kq_14
              have zs_kq_14 := kq_14.size
              replace hq := hq.chg kq_14 (by first | (intro x h1 h2; exact h2) | (intro x h1 h2; have h3 : _ = _ := h2; exfalso; omega) | (intro b h1 h2 h3; have h4 : _ = _ := h3; (try dsimp only at h2); exfalso; omega) | (intro h1; have h2 : _ = _ := h1; exfalso; omega) | (intros; exfalso; (try dsimp only at *); omega) | (intro b h1 h2 h3; exfalso; have h4 := h3.2; (try dsimp only at *); omega) | (intro h1; exfalso; have h4 := h1.2; (try dsimp only at *); omega))
              replace h := h.chg kq_14 (by first | (intro x h1 h2; exact h2) | (intro x h1 h2; have h3 : _ = _ := h2; exfalso; omega) | (intro b h1 h2 h3; have h4 : _ = _ := h3; (try dsimp only at h2); exfalso; omega) | (intro h1; have h2 : _ = _ := h1; exfalso; omega) | (intros; exfalso; (try dsimp only at *); omega) | (intro b h1 h2 h3; exfalso; have h4 := h3.2; (try dsimp only at *); omega) | (intro h1; exfalso; have h4 := h1.2; (try dsimp only at *); omega))
              replace hx := hx.chg kq_14 (by first | (intro x h1 h2; exact h2) | (intro x h1 h2; have h3 : _ = _ := h2; exfalso; omega) | (intro b h1 h2 h3; have h4 : _ = _ := h3; (try dsimp only at h2); exfalso; omega) | (intro h1; have h2 : _ = _ := h1; exfalso; omega) | (intros; exfalso; (try dsimp only at *); omega) | (intro b h1 h2 h3; exfalso; have h4 := h3.2; (try dsimp only at *); omega) | (intro h1; exfalso; have h4 := h1.2; (try dsimp only at *); omega))
              replace hw := hw.chg kq_14 (by first | (intro x h1 h2; exact h2) | (intro x h1 h2; have h3 : _ = _ := h2; exfalso; omega) | (intro b h1 h2 h3; have h4 : _ = _ := h3; (try dsimp only at h2); exfalso; omega) | (intro h1; have h2 : _ = _ := h1; exfalso; omega) | (intros; exfalso; (try dsimp only at *); omega) | (intro b h1 h2 h3; exfalso; have h4 := h3.2; (try dsimp only at *); omega) | (intro h1; exfalso; have h4 := h1.2; (try dsimp only at *); omega))
              have hI := hx
              rw [hxo] at hI
              refine WL.indexC (e := eb) hI Try.underlying23 Try.sizeOf5 (by show some (Value.slice ax _ _) = _; rw [hxo]) rfl ⟨hb, rfl⟩ rfl ?_
              refine WL.nil ?_
              exact WX.one ⟨rfl, by first | exact Chg.refl _ _ | assumption⟩
            apply DQ.step (E' := [(57, _)])
            case ho => rfl
            case hs => exact ⟨rfl, trivial⟩
            case hk => rfl
            case h1 =>
              intro wq_15 kq_15
              have zs_kq_15 := kq_15.size
              replace hq := hq.chg kq_15 (by first | (intro x h1 h2; exact h2) | (intro x h1 h2; have h3 : _ = _ := h2; exfalso; omega) | (intro b h1 h2 h3; have h4 : _ = _ := h3; (try dsimp only at h2); exfalso; omega) | (intro h1; have h2 : _ = _ := h1; exfalso; omega) | (intros; exfalso; (try dsimp only at *); omega) | (intro b h1 h2 h3; exfalso; have h4 := h3.2; (try dsimp only at *); omega) | (intro h1; exfalso; have h4 := h1.2; (try dsimp only at *); omega))
              replace h := h.chg kq_15 (by first | (intro x h1 h2; exact h2) | (intro x h1 h2; have h3 : _ = _ := h2; exfalso; omega) | (intro b h1 h2 h3; have h4 : _ = _ := h3; (try dsimp only at h2); exfalso; omega) | (intro h1; have h2 : _ = _ := h1; exfalso; omega) | (intros; exfalso; (try dsimp only at *); omega) | (intro b h1 h2 h3; exfalso; have h4 := h3.2; (try dsimp only at *); omega) | (intro h1; exfalso; have h4 := h1.2; (try dsimp only at *); omega))
              replace hx := hx.chg kq_15 (by first | (intro x h1 h2; exact h2) | (intro x h1 h2; have h3 : _ = _ := h2; exfalso; omega) | (intro b h1 h2 h3; have h4 : _ = _ := h3; (try dsimp only at h2); exfalso; omega) | (intro h1; have h2 : _ = _ := h1; exfalso; omega) | (intros; exfalso; (try dsimp only at *); omega) | (intro b h1 h2 h3; exfalso; have h4 := h3.2; (try dsimp only at *); omega) | (intro h1; exfalso; have h4 := h1.2; (try dsimp only at *); omega))
              replace hw := hw.chg kq_15 (by first | (intro x h1 h2; exact h2) | (intro x h1 h2; have h3 : _ = _ := h2; exfalso; omega) | (intro b h1 h2 h3; have h4 : _ = _ := h3; (try dsimp only at h2); exfalso; omega) | (intro h1; have h2 : _ = _ := h1; exfalso; omega) | (intros; exfalso; (try dsimp only at *); omega) | (intro b h1 h2 h3; exfalso; have h4 := h3.2; (try dsimp only at *); omega) | (intro h1; exfalso; have h4 := h1.2; (try dsimp only at *); omega))
              have hI := hx
              rw [hxo] at hI
              refine WL.load Try.isAgg5 rfl ((hI.cellsAt hb) 0 _ rfl) rfl ?_
              refine WL.nil ?_
              exact WX.one ⟨rfl, by first | exact Chg.refl _ _ | assumption⟩
            refine DQ.done (fun hd_2 => ?_)
            refine DL.step [(47, _), (54, _), (58, _)] rfl ⟨rfl, rfl, rfl, trivial⟩ rfl (fun wq_16 kq_16 => ?_)
            have zs_kq_16 := kq_16.size
            replace hq := hq.pure kq_16
            replace hF := hF.pure kq_16
            replace h := h.pure kq_16
            replace hx := hx.pure kq_16
            replace hw := hw.pure kq_16
            replace hd_2 := hd_2.pure kq_16
            refine WL.call eg_15 rfl rfl (mul_calls hF a b) ?_
            rintro v w3 ⟨rfl, hF3, k3⟩
            have zs_k3 := k3.size
            replace hq := hq.chg k3 (by first | (intro x h1 h2; exact h2) | (intro x h1 h2; have h3 : _ = _ := h2; exfalso; omega) | (intro b h1 h2 h3; have h4 : _ = _ := h3; (try dsimp only at h2); exfalso; omega) | (intro h1; have h2 : _ = _ := h1; exfalso; omega) | (intros; exfalso; (try dsimp only at *); omega) | (intro b h1 h2 h3; exfalso; have h4 := h3.2; (try dsimp only at *); omega) | (intro h1; exfalso; have h4 := h1.2; (try dsimp only at *); omega))
            replace h := h.chg k3 (by first | (intro x h1 h2; exact h2) | (intro x h1 h2; have h3 : _ = _ := h2; exfalso; omega) | (intro b h1 h2 h3; have h4 : _ = _ := h3; (try dsimp only at h2); exfalso; omega) | (intro h1; have h2 : _ = _ := h1; exfalso; omega) | (intros; exfalso; (try dsimp only at *); omega) | (intro b h1 h2 h3; exfalso; have h4 := h3.2; (try dsimp only at *); omega) | (intro h1; exfalso; have h4 := h1.2; (try dsimp only at *); omega))
            replace hx := hx.chg k3 (by first | (intro x h1 h2; exact h2) | (intro x h1 h2; have h3 : _ = _ := h2; exfalso; omega) | (intro b h1 h2 h3; have h4 : _ = _ := h3; (try dsimp only at h2); exfalso; omega) | (intro h1; have h2 : _ = _ := h1; exfalso; omega) | (intros; exfalso; (try dsimp only at *); omega) | (intro b h1 h2 h3; exfalso; have h4 := h3.2; (try dsimp only at *); omega) | (intro h1; exfalso; have h4 := h1.2; (try dsimp only at *); omega))
            replace hw := hw.chg k3 (by first | (intro x h1 h2; exact h2) | (intro x h1 h2; have h3 : _ = _ := h2; exfalso; omega) | (intro b h1 h2 h3; have h4 : _ = _ := h3; (try dsimp only at h2); exfalso; omega) | (intro h1; have h2 : _ = _ := h1; exfalso; omega) | (intros; exfalso; (try dsimp only at *); omega) | (intro b h1 h2 h3; exfalso; have h4 := h3.2; (try dsimp only at *); omega) | (intro h1; exfalso; have h4 := h1.2; (try dsimp only at *); omega))
            replace hd_2 := hd_2.chg k3 (by first | (intro x h1 h2; exact h2) | (intro x h1 h2; have h3 : _ = _ := h2; exfalso; omega) | (intro b h1 h2 h3; have h4 : _ = _ := h3; (try dsimp only at h2); exfalso; omega) | (intro h1; have h2 : _ = _ := h1; exfalso; omega) | (intros; exfalso; (try dsimp only at *); omega) | (intro b h1 h2 h3; exfalso; have h4 := h3.2; (try dsimp only at *); omega) | (intro h1; exfalso; have h4 := h1.2; (try dsimp only at *); omega))
            refine WL.nil ?_
            refine WX.one ⟨hd_2, ?_⟩
            refine DL.step [(46, _), (59, _)] rfl ⟨rfl, rfl, trivial⟩ rfl (fun wq_17 kq_17 => ?_)
            have zs_kq_17 := kq_17.size
            replace hq := hq.pure kq_17
            replace h := h.pure kq_17
            replace hx := hx.pure kq_17
            replace hw := hw.pure kq_17
            replace hd_2 := hd_2.pure kq_17
            replace hF3 := hF3.pure kq_17
            refine WL.num rfl rfl (n_xor8 _ _ _ _) rfl (?_)
            refine WL.nil ?_
            refine WX.one ⟨hd_2, ?_⟩
            refine DL.step [(60, _)] rfl ⟨rfl, trivial⟩ rfl (fun wq_18 kq_18 => ?_)
            have zs_kq_18 := kq_18.size
            replace hq := hq.pure kq_18
            replace h := h.pure kq_18
            replace hx := hx.pure kq_18
            replace hw := hw.pure kq_18
            replace hd_2 := hd_2.pure kq_18
            replace hF3 := hF3.pure kq_18
            refine WL.assign rfl rfl (?_)
            refine WL.nil ?_
            refine WX.one ⟨hd_2, ?_⟩
            refine DL.done (fun we_19 ke_19 => ?_)
            have zs_ke_19 := ke_19.size
            replace hq := hq.pure ke_19
            replace h := h.pure ke_19
            replace hx := hx.pure ke_19
            replace hw := hw.pure ke_19
            replace hd_2 := hd_2.pure ke_19
            replace hF3 := hF3.pure ke_19
            refine WX.block_normal (WX.then_normal (WC.region (WL.move rfl rfl (WL.add64 rfl rfl (by first | omega | (constructor <;> omega)) rfl (WL.assign rfl rfl (WL.nil (?_)))))))
            first
              | exact WX.loop_next (k + 1) ⟨rfl, rfl, rfl, rfl, rfl, rfl, by rw [sumF, hfa, hxb]; rfl, rfl, trivial⟩ ⟨by omega, hq, hF3, h, hx, hw⟩ (by omega)
              | exact WX.loop_next (i + 1, a4, c4, rgt ++ [sumF rs.length (fun k => mul (fn (mx rs) i k) (xs.getD k 0))]) ⟨rfl, rfl, rfl, rfl, rfl, rfl, trivial⟩ ⟨⟨by show i + 1 ≤ _; omega, .inr ⟨hxl, hn8⟩⟩, ⟨by show (rgt ++ [_]).length = i + 1; simp [hql], fun j hj => (by
                  show (rgt ++ [_]).getD j 0 = _
                  rw [List.getD_eq_getElem?_getD]
                  rcases Nat.lt_or_ge j i with h1 | h1
                  ·
                    rw [List.getElem?_append_left (by omega), ← List.getD_eq_getElem?_getD]
                    exact hqv j h1
                  ·
                    have h2 : j < i + 1 := hj
                    rw [List.getElem?_append_right (by omega), show j - rgt.length = 0 by omega, show j = i by omega]
                    rfl), fun j r' hj hr' => (by
                  rcases Nat.lt_or_ge j i with h1 | h1
                  ·
                    exact hqr j r' h1 hr'
                  ·
                    have h2 : j < i + 1 := hj
                    rw [show j = i by omega, hri] at hr'
                    injection hr' with hr'
                    rw [← hr']; exact hrl)⟩, hq4, hF, h, hx, hw⟩ (by show rs.length - (i + 1) < rs.length - i; omega)
          ·
            refine WL.nil (WX.then_normal (WC.cond_false rfl (WC.exit (WX.then_exit (WX.then_exit (WX.block_here (WX.then_normal (?_))))))))
            refine WC.region (WL.move rfl rfl (WL.move rfl rfl (?_)))
            have hkn : k = rs.length := by omega
            subst hkn
            refine WL.build (e := eb) [sumF rs.length (fun k => mul (fn (mx rs) i k) (xs.getD k 0))] Try.underlying23 Try.sizeOf5 Try.zeroValue5 rfl rfl rfl (by first | (simp [Value.cells]; done) | (simp [Value.cells] <;> rfl) | (simp [Value.cells, eb, ei, es, ebool, e32, e64]; done)) (by decide) rfl ?_
            intro a_qn w_qn qn l_qn z_qn k_qn
            have zs_k_qn := k_qn.size
            replace hq := hq.pure k_qn
            replace hF := hF.pure k_qn
            replace h := h.pure k_qn
            replace hx := hx.pure k_qn
            replace hw := hw.pure k_qn
            refine WL.append (e := eb) (S := fun b => gf < b) info_5 rfl Try.underlying23 rfl rfl hq (qn.rsl.src Try.underlying23) (by show (rgt.length + 1) * 1 ≤ _ ∧ rgt.length + 1 ≤ _; constructor <;> omega) (fun b hb => by have := hF.lt; omega) rfl ?_
            intro a4 c4 w4 hq4 g4 nn4
            have k4 := g4.chg
            have zs_k4 := k4.size
            replace hF := hF.chg k4 (by first | (intro x h1 h2; exact h2) | (intro x h1 h2; have h3 : _ = _ := h2; exfalso; omega) | (intro b h1 h2 h3; have h4 : _ = _ := h3; (try dsimp only at h2); exfalso; omega) | (intro h1; have h2 : _ = _ := h1; exfalso; omega) | (intros; exfalso; (try dsimp only at *); omega) | (intro b h1 h2 h3; exfalso; have h4 := h3.2; (try dsimp only at *); omega) | (intro h1; exfalso; have h4 := h1.2; (try dsimp only at *); omega))
            replace h := h.chg k4 (by first | (intro x h1 h2; exact h2) | (intro x h1 h2; have h3 : _ = _ := h2; exfalso; omega) | (intro b h1 h2 h3; have h4 : _ = _ := h3; (try dsimp only at h2); exfalso; omega) | (intro h1; have h2 : _ = _ := h1; exfalso; omega) | (intros; exfalso; (try dsimp only at *); omega) | (intro b h1 h2 h3; exfalso; have h4 := h3.2; (try dsimp only at *); omega) | (intro h1; exfalso; have h4 := h1.2; (try dsimp only at *); omega))
            replace hx := hx.chg k4 (by first | (intro x h1 h2; exact h2) | (intro x h1 h2; have h3 : _ = _ := h2; exfalso; omega) | (intro b h1 h2 h3; have h4 : _ = _ := h3; (try dsimp only at h2); exfalso; omega) | (intro h1; have h2 : _ = _ := h1; exfalso; omega) | (intros; exfalso; (try dsimp only at *); omega) | (intro b h1 h2 h3; exfalso; have h4 := h3.2; (try dsimp only at *); omega) | (intro h1; exfalso; have h4 := h1.2; (try dsimp only at *); omega))
            replace hw := hw.chg k4 (by first | (intro x h1 h2; exact h2) | (intro x h1 h2; have h3 : _ = _ := h2; exfalso; omega) | (intro b h1 h2 h3; have h4 : _ = _ := h3; (try dsimp only at h2); exfalso; omega) | (intro h1; have h2 : _ = _ := h1; exfalso; omega) | (intros; exfalso; (try dsimp only at *); omega) | (intro b h1 h2 h3; exfalso; have h4 := h3.2; (try dsimp only at *); omega) | (intro h1; exfalso; have h4 := h1.2; (try dsimp only at *); omega))
            refine WL.assign rfl rfl (WL.nil (WX.block_normal (WX.then_normal (WC.region (WL.move rfl rfl (WL.add64 rfl rfl (by first | omega | (constructor <;> omega)) rfl (WL.assign rfl rfl (?_))))))))
            refine WL.nil (?_)
            first
              | exact WX.loop_next (k + 1) ⟨rfl, rfl, rfl, rfl, rfl, rfl, by rw [sumF, hfa, hxb]; rfl, rfl, trivial⟩ ⟨by omega, hq, hF3, h, hx, hw⟩ (by omega)
              | exact WX.loop_next (i + 1, a4, c4, rgt ++ [sumF rs.length (fun k => mul (fn (mx rs) i k) (xs.getD k 0))]) ⟨rfl, rfl, rfl, rfl, rfl, rfl, trivial⟩ ⟨⟨by show i + 1 ≤ _; omega, .inr ⟨hxl, hn8⟩⟩, ⟨by show (rgt ++ [_]).length = i + 1; simp [hql], fun j hj => (by
                  show (rgt ++ [_]).getD j 0 = _
                  rw [List.getD_eq_getElem?_getD]
                  rcases Nat.lt_or_ge j i with h1 | h1
                  ·
                    rw [List.getElem?_append_left (by omega), ← List.getD_eq_getElem?_getD]
                    exact hqv j h1
                  ·
                    have h2 : j < i + 1 := hj
                    rw [List.getElem?_append_right (by omega), show j - rgt.length = 0 by omega, show j = i by omega]
                    rfl), fun j r' hj hr' => (by
                  rcases Nat.lt_or_ge j i with h1 | h1
                  ·
                    exact hqr j r' h1 hr'
                  ·
                    have h2 : j < i + 1 := hj
                    rw [show j = i by omega, hri] at hr'
                    injection hr' with hr'
                    rw [← hr']; exact hrl)⟩, hq4, hF, h, hx, hw⟩ (by show rs.length - (i + 1) < rs.length - i; omega)
  ·
    refine WL.nil (WX.then_normal (WC.cond_false rfl (WC.exit (WX.then_exit (WX.then_exit (WX.block_here (WX.then_normal (?_))))))))
    refine WC.seq (WC.region (WL.move rfl rfl (WL.move rfl rfl (WL.move rfl rfl (?_)))))
    have hin : i = rs.length := by omega
    subst hin
    have hshape : 1 ≤ rs.length → ShapeOk (mx rs) rgt := fun h1 => ⟨by rw [hml]; omega, by rw [hml]; exact hql, fun z hz => by
      obtain ⟨j, hj, rfl⟩ := List.getElem_of_mem hz
      have hj2 : j < rs.length := by rw [← hml]; exact hj
      rw [hml, ← hqr j _ hj2 (List.getElem?_eq_getElem hj2)]
      simp [mx]⟩
    refine WL.call eg_14 rfl rfl (Solve_calls hF (h.mono (fun b hb => by omega)) (hq.rsl.mono (fun b hb => by omega)) hl1 (by omega)) ?_
    rintro v w5 ⟨⟨ay, cy, out, e, rfl, hS, hY⟩, hF5, k5⟩
    have zk5 := k5.size
    have zs_k5 := k5.size
    replace hq := hq.chg k5 (by first | (intro x h1 h2; exact h2) | (intro x h1 h2; have h3 : _ = _ := h2; exfalso; omega) | (intro b h1 h2 h3; have h4 : _ = _ := h3; (try dsimp only at h2); exfalso; omega) | (intro h1; have h2 : _ = _ := h1; exfalso; omega) | (intros; exfalso; (try dsimp only at *); omega) | (intro b h1 h2 h3; exfalso; have h4 := h3.2; (try dsimp only at *); omega) | (intro h1; exfalso; have h4 := h1.2; (try dsimp only at *); omega))
    replace h := h.chg k5 (by first | (intro x h1 h2; exact h2) | (intro x h1 h2; have h3 : _ = _ := h2; exfalso; omega) | (intro b h1 h2 h3; have h4 : _ = _ := h3; (try dsimp only at h2); exfalso; omega) | (intro h1; have h2 : _ = _ := h1; exfalso; omega) | (intros; exfalso; (try dsimp only at *); omega) | (intro b h1 h2 h3; exfalso; have h4 := h3.2; (try dsimp only at *); omega) | (intro h1; exfalso; have h4 := h1.2; (try dsimp only at *); omega))
    replace hx := hx.chg k5 (by first | (intro x h1 h2; exact h2) | (intro x h1 h2; have h3 : _ = _ := h2; exfalso; omega) | (intro b h1 h2 h3; have h4 : _ = _ := h3; (try dsimp only at h2); exfalso; omega) | (intro h1; have h2 : _ = _ := h1; exfalso; omega) | (intros; exfalso; (try dsimp only at *); omega) | (intro b h1 h2 h3; exfalso; have h4 := h3.2; (try dsimp only at *); omega) | (intro h1; exfalso; have h4 := h1.2; (try dsimp only at *); omega))
    replace hw := hw.chg k5 (by first | (intro x h1 h2; exact h2) | (intro x h1 h2; have h3 : _ = _ := h2; exfalso; omega) | (intro b h1 h2 h3; have h4 : _ = _ := h3; (try dsimp only at h2); exfalso; omega) | (intro h1; have h2 : _ = _ := h1; exfalso; omega) | (intros; exfalso; (try dsimp only at *); omega) | (intro b h1 h2 h3; exfalso; have h4 := h3.2; (try dsimp only at *); omega) | (intro h1; exfalso; have h4 := h1.2; (try dsimp only at *); omega))
    rcases hS with ⟨hns, rfl, rfl⟩ | ⟨hok, rfl, hol, hsol⟩ | ⟨hok, rfl, rfl, hker⟩
    ·
      have hn0 : rs.length = 0 := by
        rcases Nat.eq_zero_or_pos rs.length with h1 | h1
        ·
          exact h1
        ·
          exact absurd (hshape h1) hns
      refine WL.move rfl rfl (WL.extract rfl rfl rfl (WL.extract rfl rfl rfl (WL.assign rfl rfl (WL.assign rfl rfl (WL.nil (WX.then_normal (WC.seq (?_))))))))
      refine WC.seq (WC.region (WL.move rfl rfl (?_)))
      refine WL.eqlT rfl rfl rfl (by first | rfl | omega | decide) ?_
      refine WL.nil (WX.then_normal (WC.cond_true rfl (WC.seq (WC.region (WL.move rfl rfl (?_))))))
      refine WL.eqlT rfl rfl rfl (by first | rfl | omega | decide) ?_
      refine WL.assign rfl rfl (WL.nil (WX.then_normal (WC.ret (WX.then_ret (?_)))))
      refine WX.ret1 (.inl rfl) Try.results4 rfl ?_
      exact ⟨_, rfl, rfl, hw⟩
    ·
      have hn1 : 1 ≤ rs.length := by have := hok.1; rw [hml] at this; omega
      have heq : out = xs := SolR.holds (.inr (.inl ⟨hok, rfl, hol, hsol⟩)) (by rw [hml]; omega) (fun i hi => by rw [hml] at hi ⊢; exact (hqv i hi).symm)
      refine WL.move rfl rfl (WL.extract rfl rfl rfl (WL.extract rfl rfl rfl (WL.assign rfl rfl (WL.assign rfl rfl (WL.nil (WX.then_normal (WC.seq (?_))))))))
      refine WC.seq (WC.region (WL.move rfl rfl (?_)))
      refine WL.eqlF rfl rfl rfl (by first | rfl | omega | decide) ?_
      refine WL.nil (WX.then_normal (WC.cond_false rfl (WC.skip (WX.then_normal (WC.seq (WC.seq (WC.region (?_))))))))
      refine WL.move rfl rfl (?_)
      refine WL.eqlT rfl rfl rfl (by first | rfl | omega | decide) ?_
      refine WL.nil (WX.then_normal (WC.cond_true rfl (WC.seq (WC.region (WL.move rfl rfl (?_))))))
      refine WL.toStr Try.underlying23 Try.underlying5 Try.underlying9 hY.rsl rfl rfl ?_
      refine WL.move rfl rfl (?_)
      refine WL.toStr Try.underlying23 Try.underlying5 Try.underlying9 hx rfl rfl ?_
      refine WL.seql rfl rfl rfl ?_
      refine WL.assign rfl rfl (WL.nil (WX.then_normal (WC.ret (WX.then_ret (?_)))))
      refine WX.ret1 (.inl rfl) Try.results4 rfl ?_
      refine ⟨_, rfl, ?_, hw⟩
      rw [decide_eq_true (bytes_eq.2 heq)]
    ·
      have hn1 : 1 ≤ rs.length := by have := hok.1; rw [hml] at this; omega
      have hS7 : SolR (mx rs) rgt [] 7 := .inr (.inr ⟨hok, rfl, rfl, hker⟩)
      have hok2 : ShapeOk (mx rs) (List.replicate rs.length 0) := ⟨hok.1, by rw [hml, List.length_replicate], hok.2.2⟩
      refine WL.move rfl rfl (WL.extract rfl rfl rfl (WL.extract rfl rfl rfl (WL.assign rfl rfl (WL.assign rfl rfl (WL.nil (WX.then_normal (WC.seq (?_))))))))
      refine WC.seq (WC.region (WL.move rfl rfl (?_)))
      refine WL.eqlF rfl rfl rfl (by first | rfl | omega | decide) ?_
      refine WL.nil (WX.then_normal (WC.cond_false rfl (WC.skip (WX.then_normal (WC.seq (WC.seq (WC.region (?_))))))))
      refine WL.move rfl rfl (?_)
      refine WL.eqlF rfl rfl rfl (by first | rfl | omega | decide) ?_
      refine WL.nil (WX.then_normal (WC.cond_false rfl (WC.skip (WX.then_normal (WC.seq (WC.seq (WC.region (?_))))))))
      refine WL.move rfl rfl (?_)
      refine WL.neqF rfl rfl rfl (by first | rfl | omega | decide) ?_
      refine WL.move rfl rfl (WL.want rfl rfl rfl (WL.move rfl rfl (WL.want rfl rfl rfl (WL.len Try.underlying23 rfl rfl (WL.want rfl rfl rfl (?_))))))
      refine WL.neqF rfl rfl rfl (by first | rfl | omega | decide) ?_
      refine WL.pickF rfl rfl rfl (WL.nil (WX.then_normal (WC.cond_false rfl (WC.skip (WX.then_normal (WC.seq (WC.region (?_))))))))
      refine WL.move rfl rfl (WL.move rfl rfl (WL.move rfl rfl (?_)))
      refine WL.make (e := eb) (0 : UInt8) rs.length rs.length Try.underlying23 info_5 rfl rfl rfl ⟨rfl, rfl, Nat.le_refl _⟩ (by constructor <;> omega) rfl ?_
      intro g6 w6 hO6 k6 z6 e6
      have zs_k6 := k6.size
      replace hq := hq.pure k6
      replace h := h.pure k6
      replace hx := hx.pure k6
      replace hw := hw.pure k6
      replace hF5 := hF5.pure k6
      replace hY := hY.pure k6
      have lgf5 := hF5.lt
      refine WL.call eg_14 rfl rfl (Solve_calls hF5 (h.mono (fun b hb => by omega)) (hO6.rsl.mono (S' := fun b => b ≠ gf) (fun b hb => by omega)) hl1 (by rw [List.length_replicate]; omega)) ?_
      rintro v w7 ⟨⟨ay2, cy2, out2, e2, rfl, hS2, hY2⟩, hF7, k7⟩
      have zk7 := k7.size
      obtain ⟨rfl, rfl⟩ := SolR.miss2 hS7 hS2 hok2
      replace hw := hw.chg k7 (fun x h1 h2 => by have h3 : x = gf := h2; omega)
      refine WL.move rfl rfl (WL.extract rfl rfl rfl (WL.extract rfl rfl rfl (WL.assign rfl rfl (WL.assign rfl rfl (WL.nil (WX.then_normal (WC.seq (?_))))))))
      refine WC.region (WL.move rfl rfl (?_))
      refine WL.eqlT rfl rfl rfl (by first | rfl | omega | decide) ?_
      refine WL.move rfl rfl (WL.want rfl rfl rfl (WL.move rfl rfl (WL.want rfl rfl rfl (WL.len Try.underlying23 rfl rfl (WL.want rfl rfl rfl (?_))))))
      refine WL.eqlT rfl rfl rfl (by first | rfl | omega | decide) ?_
      refine WL.pickT rfl rfl rfl (WL.assign rfl rfl (WL.nil (WX.then_normal (WC.ret (?_)))))
      refine WX.ret1 (.inl rfl) Try.results4 rfl ?_
      exact ⟨_, rfl, rfl, hw⟩
end Go.Proofs.Ytjdbjdgobhjbkaa
