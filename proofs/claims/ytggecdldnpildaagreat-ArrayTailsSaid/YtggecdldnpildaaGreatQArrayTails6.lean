import Derived.Test.YtggecdldnpildaaGreatQArrayTails5
namespace Go.HL
open Go.RowKit
section
variable {P : Program} {ops : Array Oper} {Q : Exit → Act → World → Prop} {N : Nat} {E : Env} {w : World} {rest : List Oper} {d : Nat} {ty : TypeId} {pos : String} {af : Array Edge}
/-- a place of an array that is a value -/
theorem WL.aindex {t T : TypeId} {x y : Operand} {cs : Array Value} {n : Nat} {k : IntKind} {i : Int} {v : Value} (j : Nat) (ht : P.underlying t = some (.array n T)) (hs : ∀ w, (sizeOf T).run P w = .ok 1 w) (ha : ∀ w, (isAgg T).run P w = .ok false w) (hx : ev E x = some (.agg cs)) (hy : ev E y = some (.int k i)) (hi : i = (j : Int) ∧ j < n) (hv : cs[j]? = some v) (hd : Nat.blt d N = true)
    (h : WL P ops Q N rest ((d, v) :: E) w) : WL P ops Q N (⟨some d, .index t x y, ty, pos, af, none⟩ :: rest) E w :=
  WL.run _ w (fun a hh => by
    obtain ⟨rfl, hj⟩ := hi
    have h1 : ((j : Int) < (n : Int)) := by omega
    simp [execOp, ev_eval hh hx, ev_eval hh hy, Instr.index, asIntOf, run_underlying ht, hj, Go.part, ha, hs, hv]) hd h
end
def frP (k : Nat) (bad : List Int) (q : Nat) : List Nat := (List.range q).filter (fun q : Nat => decide (((k + q : Nat) : Int) ∉ bad))
theorem sorted_lt {l : List Nat} (h : l.Pairwise (· < ·)) {a b x y : Nat} (ha : l[a]? = some x) (hb : l[b]? = some y) (hab : a < b) : x < y := by
  obtain ⟨h1, rfl⟩ := List.getElem?_eq_some_iff.1 ha
  obtain ⟨h2, rfl⟩ := List.getElem?_eq_some_iff.1 hb
  exact List.pairwise_iff_getElem.1 h a b h1 h2 hab
theorem frP_next (k : Nat) (bad : List Int) (q : Nat) : frP k bad (q + 1) = frP k bad q ++ if ((k + q : Nat) : Int) ∈ bad then [] else [q] := by
  rw [frP, List.range_succ, List.filter_append, frP, List.filter_cons]
  congr 1
  by_cases h : ((k + q : Nat) : Int) ∈ bad
  · rw [if_pos h, if_neg (by simpa using h)]; rfl
  · rw [if_neg h, if_pos (by simpa using h)]; rfl
theorem frP_done {k : Nat} {bad : List Int} {q : Nat} (hq : q ≤ 3) (hle : (frP k bad q).length ≤ (lostL k bad).length) (h : 3 ≤ q ∨ (lostL k bad).length ≤ (frP k bad q).length) : frP k bad q = fromL k bad := by
  obtain ⟨X, hX⟩ : ∃ X, List.range 3 = List.range q ++ X := by
    have h4 : q = 0 ∨ q = 1 ∨ q = 2 ∨ q = 3 := by omega
    rcases h4 with rfl | rfl | rfl | rfl
    · exact ⟨[0, 1, 2], rfl⟩
    · exact ⟨[1, 2], rfl⟩
    · exact ⟨[2], rfl⟩
    · exact ⟨[], rfl⟩
  rcases h with h | h
  · obtain rfl : q = 3 := by omega
    rw [fromL]
    exact (List.take_of_length_le hle).symm
  · rw [fromL, hX, List.filter_append]
    exact (List.take_left' (show (frP k bad q).length = _ by omega)).symm
/-- blocks below a field's that are not the columns' -/
def Off (rs : List Rw) (go gf b : Nat) : Prop := b < gf ∧ b ≠ go ∧ ∀ r ∈ rs, r.ao ≠ some ⟨b, 0, none⟩
end Go.HL
namespace Go.Proofs.YtggecdldnpildaaGreat
open Go.RowKit Go.HL
set_option maxRecDepth 100000

set_option maxHeartbeats 8000000 in
theorem heal_calls {w : World} {gf go k n cl : Nat} {al : Option Addr} {rs : List Rw} {bad : List Int} (hF : Fld w gf) (hO : OB w 26 5 go gf rs) (hL : RSl (Off rs go gf) w ei al cl (li (lostL k bad))) (hk : 1 ≤ k ∧ k ≤ 13) (hlen : rs.length = k + 3) (hn : n ≤ 4096) (hb3 : bad.length ≤ 3)
    (hnil : ∀ (i : Nat) (r : Rw), rs[i]? = some r → k ≤ i → (i : Int) ∈ bad → r = ⟨none, 0, []⟩) (hreal : ∀ (i : Nat) (r : Rw), rs[i]? = some r → ¬ (k ≤ i ∧ (i : Int) ∈ bad) → ∃ g, r.ao = some ⟨g, 0, none⟩ ∧ r.xs.length = n) (hz : ∀ (i : Nat) (r : Rw), rs[i]? = some r → i ∈ lostL k bad → r.xs = List.replicate n 0) :
    Calls Tryz.prog 92 [.pointer (some ⟨gf, 0, none⟩), .slice (some ⟨go, 0, none⟩) rs.length rs.length, vi k, vi n, .slice al (li (lostL k bad)).length cl].toArray w (Ret fun v w' => v = vi 0 ∧ (∃ rs', HealI rs rs' k (lostL k bad) (fromL k bad) n ∧ OB w' 26 5 go gf rs') ∧ Fld w' gf ∧ Chg (fun x => go ≤ x) w w') := by
  have hw := Chg.refl (fun x => go ≤ x) w
  have lgf := hF.lt
  have hlo := hO.lo
  have hlil := li_len (lostL k bad)
  have hfl := from_len k hb3
  have hL3 : (lostL k bad).length ≤ 3 := by rw [← hfl, fromL, List.length_take]; exact Nat.le_trans (Nat.min_le_right _ _) (List.length_filter_le _ _)
  refine Calls.of_WC Tryz.func92 rfl Tryz.ntmps92 (by simp) ?_
  refine WC.seq (WC.region (WL.assign rfl rfl (WL.nil (WX.then_normal (WC.seq (WC.seq (WC.region (?_))))))))
  refine WL.move rfl rfl (WL.len Tryz.underlying39 rfl rfl (?_))
  refine WL.eql? rfl rfl rfl (fun h28 => ?_) (fun h28 => ?_)
  ·
    refine WL.nil (WX.then_normal (WC.cond_true rfl (WC.seq (WC.region (WL.assign rfl rfl (WL.nil (WX.then_normal (?_))))))))
    refine WC.ret (WX.then_ret (?_))
    refine WX.ret1 (.inl rfl) Tryz.results92 rfl ?_
    have hL0 : lostL k bad = [] := List.eq_nil_of_length_eq_zero (by omega)
    have hF0 : fromL k bad = [] := List.eq_nil_of_length_eq_zero (by omega)
    refine ⟨_, rfl, rfl, ⟨rs, ⟨rfl, fun i r h => ⟨r.xs, h, rfl, fun _ => rfl⟩, fun t _ q hq => ?_⟩, hO⟩, hF, hw⟩
    rw [hF0] at hq
    cases hq
  ·
    refine WL.nil (WX.then_normal (WC.cond_false rfl (WC.skip (WX.then_normal (WC.seq (WC.region (WL.move rfl rfl (?_))))))))
    refine WL.move rfl rfl (WL.move rfl rfl (?_))
    have hOr := hO.toRS (S := fun b => b < gf) (fun x _ h => h)
    refine WL.slice (l := 0) (h := k) (k := .i64) Tryz.underlying87 Tryz.sizeOf26 hOr.outer rfl (.inr ⟨rfl, rfl⟩) (.inl rfl) (by constructor <;> omega) rfl ?_
    intro a_hz1 c_hz1 hz1 n_hz1
    refine WL.move rfl rfl (WL.move rfl rfl (?_))
    have hcc : RS (fun b => b < gf) w a_hz1 c_hz1 ((rs.take k).drop 0) := ⟨hz1, fun r h => hOr.inner r (List.mem_of_mem_take (List.mem_of_mem_drop h))⟩
    have hLg := hL.mono (S' := fun b => b < gf) (fun b h => h.1)
    have hl0 : ((rs.take k).drop 0).length = k := by simp; omega
    have hat0 : ∀ (i : Nat) (x : List UInt8), (xss ((rs.take k).drop 0))[i]? = some x → i < k ∧ ∃ r, rs[i]? = some r ∧ r.xs = x := fun i x hx => by
      have hi : i < k := by have := (List.getElem?_eq_some_iff.1 hx).1; rw [xss_len, hl0] at this; exact this
      rw [xss_take, List.getElem?_take_of_lt hi, xss, List.getElem?_map] at hx
      obtain ⟨r, hr⟩ : ∃ r, rs[i]? = some r := ⟨_, List.getElem?_eq_getElem (by omega)⟩
      rw [hr] at hx
      injection hx with hx
      exact ⟨hi, r, hr, hx⟩
    have hal : ∀ d ∈ xss ((rs.take k).drop 0), d.length = n := fun d hd => by
      obtain ⟨i, hi⟩ := List.getElem?_of_mem hd
      obtain ⟨h1, r, h2, h3⟩ := hat0 i d hi
      obtain ⟨g, _, h4⟩ := hreal i r h2 (fun h => by omega)
      rw [← h3, h4]
    have hzz : ∀ (i : Nat) (x : List UInt8), (xss ((rs.take k).drop 0))[i]? = some x → (i : Int) ∈ li (lostL k bad) → x = List.replicate n 0 := fun i x hx hm => by
      obtain ⟨h1, r, h2, h3⟩ := hat0 i x hx
      rw [li, List.mem_map] at hm
      obtain ⟨i', h4, h5⟩ := hm
      obtain rfl : i' = i := by omega
      rw [← h3, hz i' r h2 h4]
    refine WL.call eg_78 rfl rfl (sums_calls2 hF hcc hLg (by omega) hzz hn (by omega) hal) ?_
    rintro v w1 ⟨⟨g2, gs, rfl, hP, hgs3, hg2, hF1⟩, k1⟩
    have hPf : ∀ q, q < 3 → ∀ t, t < n → ∃ x, (three (xss ((rs.take k).drop 0)) n ((rs.take k).drop 0).length)[q]? = some x ∧ x[t]? = some (sumF k (fun j => mul (wtq q j) (fn (mx rs) j t))) := fun q hq t ht => by
      refine ⟨_, three_at hq, ?_⟩
      rw [prow_at hal ht (by rw [xss_len]; exact Nat.le_refl _), px_sumF, hl0]
      congr 1
      refine sumF_cong (fun j hj => ?_)
      rw [fn_opt (m := xss ((rs.take k).drop 0)) (m' := mx rs) (by rw [xss_take, List.getElem?_take_of_lt hj]; rfl)]
    obtain ⟨PP, hPP⟩ : ∃ PP, PP = three (xss ((rs.take k).drop 0)) n ((rs.take k).drop 0).length := ⟨_, rfl⟩
    rw [← hPP] at hP hPf
    replace hO := hO.chg k1 (fun x _ h1 h2 => by have h3 : gf ≤ x := h2; omega)
    replace hL := hL.chg k1 (fun b _ h1 h2 => by have h3 : gf ≤ b := h2; have := h1.1; omega)
    replace hw := hw.chg k1 (fun x _ h1 => by have h3 : gf ≤ x := h1; show go ≤ x; omega)
    replace hF := hF1
    have hPl : ∀ (i g : Nat), gs[i]? = some g → g < w1.heap.size := fun i g h => hP.lt h
    have hPo := hP.lto
    have hN1 : gf < w1.heap.size := hF.lt
    refine WL.assign rfl rfl (WL.nil (WX.then_normal (WC.seq (WC.region (WL.assign rfl rfl (WL.nil (WX.then_normal (?_))))))))
    refine WC.seq (WC.region (WL.assign rfl rfl (WL.nil (WX.then_normal (WC.seq (WC.seq (WC.region (?_))))))))
    refine WL.assign rfl rfl (WL.nil (WX.then_normal (?_)))
    obtain ⟨N0, hN0⟩ : ∃ N0, N0 = w1.heap.size := ⟨_, rfl⟩
    rw [← hN0] at hPl hPo hN1
    have hG : GA N0 w1 26 3 none 0 [] none 0 [] := GA.nil _ _ _ _
    refine WC.cutG (σ := (Option Addr × Nat × List Rw) × (Option Addr × Nat)) (fun s => [(0, .pointer (some ⟨gf, 0, none⟩)), (1, .slice (some ⟨go, 0, none⟩) rs.length rs.length), (2, vi k), (3, vi n), (4, .slice al (li (lostL k bad)).length cl), (11, .slice (some ⟨g2, 0, none⟩) 3 3), (12, .slice s.1.1 s.1.2.2.length s.1.2.1), (13, .slice s.2.1 (li (fromL k bad)).length s.2.2)])
      (fun s w' => (s.1.2.2.length = (fromL k bad).length ∧ ∀ (a q : Nat) (r : Rw), (fromL k bad)[a]? = some q → s.1.2.2[a]? = some r → r.xs = (lostL k bad).map (wtq q)) ∧ GA N0 w' 26 3 s.1.1 s.1.2.1 s.1.2.2 s.2.1 s.2.2 (fromL k bad) ∧ N0 ≤ w'.heap.size ∧ OR w' 26 5 g2 3 gs n PP [] ∧ Fld w' gf ∧ OB w' 26 5 go gf rs ∧ RSl (Off rs go gf) w' ei al cl (li (lostL k bad)) ∧ Chg (fun x => go ≤ x) w w') ?_ ?_
    rotate_left
    ·
      refine WC.block ?_
      refine WC.loop (σ := Nat × (Option Addr × Nat × List Rw) × (Option Addr × Nat)) (fun s => [(0, .pointer (some ⟨gf, 0, none⟩)), (1, .slice (some ⟨go, 0, none⟩) rs.length rs.length), (2, vi k), (3, vi n), (4, .slice al (li (lostL k bad)).length cl), (11, .slice (some ⟨g2, 0, none⟩) 3 3), (12, .slice s.2.1.1 s.2.1.2.2.length s.2.1.2.1), (13, .slice s.2.2.1 (li (frP k bad s.1)).length s.2.2.2), (14, vi s.1)])
        (fun s w' => (s.1 ≤ 3 ∧ (frP k bad s.1).length ≤ (lostL k bad).length) ∧ (s.2.1.2.2.length = (frP k bad s.1).length ∧ ∀ (a q : Nat) (r : Rw), (frP k bad s.1)[a]? = some q → s.2.1.2.2[a]? = some r → r.xs = (lostL k bad).map (wtq q)) ∧ GA N0 w' 26 3 s.2.1.1 s.2.1.2.1 s.2.1.2.2 s.2.2.1 s.2.2.2 (frP k bad s.1) ∧ N0 ≤ w'.heap.size ∧ OR w' 26 5 g2 3 gs n PP [] ∧ Fld w' gf ∧ OB w' 26 5 go gf rs ∧ RSl (Off rs go gf) w' ei al cl (li (lostL k bad)) ∧ Chg (fun x => go ≤ x) w w') (fun s => 3 - s.1) (0, (none, 0, []), (none, 0)) ⟨rfl, rfl, rfl, rfl, rfl, rfl, rfl, rfl, rfl, trivial⟩ ⟨⟨Nat.zero_le _, Nat.zero_le _⟩, ⟨rfl, fun a q r h => by cases h⟩, hG, by rw [hN0]; exact Nat.le_refl _, hP, hF, hO, hL, hw⟩ ?_
      clear hG hP hF hO hL hw
      rintro ⟨q, ⟨ar, cr, ms⟩, af, cf⟩ w2 ⟨⟨hq3, hfq⟩, ⟨hml, hms⟩, hG, hNw, hP, hF, hO, hL, hw⟩
      simp only at hq3 hfq hml hms hG
      dsimp only
      have hlif := li_len (frP k bad q)
      refine WC.seq (WC.seq (WC.region (WL.move rfl rfl (?_))))
      refine WL.lss? rfl rfl rfl (fun h37 => ?_) (fun h37 => ?_)
      ·
        refine WL.move rfl rfl (WL.want rfl rfl rfl (WL.move rfl rfl (WL.want rfl rfl rfl (WL.len Tryz.underlying87 rfl rfl (WL.want rfl rfl rfl (WL.move rfl rfl (WL.want rfl rfl rfl (?_))))))))
        refine WL.len Tryz.underlying39 rfl rfl (WL.want rfl rfl rfl (?_))
        refine WL.lss? rfl rfl rfl (fun h43 => ?_) (fun h43 => ?_)
        ·
          refine WL.pickT rfl rfl rfl (WL.nil (WX.then_normal (WC.cond_true rfl (WC.skip (WX.then_normal (WC.seq (WC.block (?_))))))))
          refine WC.seq (WC.seq (WC.region (WL.move rfl rfl (WL.move rfl rfl (WL.move rfl rfl (?_))))))
          obtain ⟨r, hr⟩ : ∃ r, rs[k + q]? = some r := ⟨_, List.getElem?_eq_getElem (by omega)⟩
          refine WL.add64 rfl rfl (by constructor <;> omega) rfl ?_
          rw [show ((k : Int) + (q : Int)) = ((k + q : Nat) : Int) from by omega]
          refine WL.indexT (e := erow) Tryz.underlying87 Tryz.sizeOf26 hO.outer.rsl rfl rfl ⟨hr, rfl⟩ rfl ?_
          intro bb oo hcc
          refine WL.load Tryz.isAgg26 rfl (hcc 0 _ rfl) rfl ?_
          refine WL.isNil Tryz.underlying26 rfl rfl rfl ?_
          by_cases hbq : ((k + q : Nat) : Int) ∈ bad
          ·
            have er := hnil (k + q) r hr (by omega) hbq
            rw [show r.ao.isNone = true from by rw [er]; rfl]
            refine WL.nil (WX.then_normal (WC.cond_true rfl (WC.exit (WX.then_exit (WX.block_here (WX.then_normal (WC.region (?_))))))))
            refine WL.move rfl rfl (WL.add64 rfl rfl (by omega) rfl (WL.assign rfl rfl (WL.nil (?_))))
            have hfe := frP_next k bad q
            rw [if_pos hbq, List.append_nil] at hfe
            rw [← hfe] at hfq hml hms hG ⊢
            exact WX.loop_next (q + 1, (ar, cr, ms), (af, cf)) ⟨rfl, rfl, rfl, rfl, rfl, rfl, rfl, rfl, rfl, trivial⟩ ⟨⟨by show q + 1 ≤ 3; omega, hfq⟩, ⟨hml, hms⟩, hG, hNw, hP, hF, hO, hL, hw⟩ (by show 3 - (q + 1) < 3 - q; omega)
          ·
            obtain ⟨gq, hgq, hql⟩ := hreal (k + q) r hr (fun h => hbq h.2)
            rw [show r.ao.isNone = false from by rw [hgq]; rfl]
            refine WL.nil (WX.then_normal (WC.cond_false rfl (WC.skip (WX.then_normal (WC.seq (WC.region (WL.assign rfl rfl (?_))))))))
            refine WL.nil (WX.then_normal (WC.seq (WC.seq (WC.region (WL.move rfl rfl (WL.len Tryz.underlying39 rfl rfl (WL.move rfl rfl (?_))))))))
            refine WL.nil (WX.then_normal (WC.block (?_)))
            have hk2 := Chg.refl (fun x => x = gf) w2
            have hbd := hG.bound
            have h15 : Row (fun b => w2.heap.size ≤ b) w2 5 eb none 0 (((lostL k bad).take 0).map (wtq q)) := Row.nil _ _ _ _
            refine WC.loop (σ := Nat × (Option Addr × Nat)) (fun s => [(0, .pointer (some ⟨gf, 0, none⟩)), (1, .slice (some ⟨go, 0, none⟩) rs.length rs.length), (2, vi k), (3, vi n), (4, .slice al (li (lostL k bad)).length cl), (11, .slice (some ⟨g2, 0, none⟩) 3 3), (12, .slice ar ms.length cr), (13, .slice af (li (frP k bad q)).length cf), (14, vi q), (15, .slice s.2.1 (((lostL k bad).take s.1).map (wtq q)).length s.2.2), (54, .slice al (li (lostL k bad)).length cl), (55, vi (li (lostL k bad)).length), (56, vi s.1)])
              (fun s w' => s.1 ≤ (lostL k bad).length ∧ Row (fun b => w2.heap.size ≤ b) w' 5 eb s.2.1 s.2.2 (((lostL k bad).take s.1).map (wtq q)) ∧ Fld w' gf ∧ RSl (Off rs go gf) w' ei al cl (li (lostL k bad)) ∧ Chg (fun x => x = gf) w2 w') (fun s => (lostL k bad).length - s.1) (0, none, 0) ⟨rfl, rfl, rfl, rfl, rfl, rfl, rfl, rfl, rfl, rfl, rfl, rfl, rfl, trivial⟩ ⟨Nat.zero_le _, h15, hF, hL, hk2⟩ ?_
            clear h15 hF hk2
            rintro ⟨j, a15, c15⟩ w3 ⟨hj, h15, hF, hL3', hk2⟩
            simp only at hj h15
            dsimp only
            refine WC.seq (WC.region (?_))
            refine WL.lss? rfl rfl rfl (fun h57 => ?_) (fun h57 => ?_)
            ·
              refine WL.nil (WX.then_normal (WC.seq (WC.cond_true rfl (WC.skip (WX.then_normal (WC.seq (WC.block (?_))))))))
              refine WC.seq (WC.region (?_))
              obtain ⟨i, hi⟩ : ∃ i, (lostL k bad)[j]? = some i := ⟨_, List.getElem?_eq_getElem (by omega)⟩
              refine WL.indexT (e := ei) Tryz.underlying39 Tryz.sizeOf3 hL3' rfl rfl ⟨li_at hi, rfl⟩ rfl ?_
              intro bb2 oo2 hcc2
              refine WL.load Tryz.isAgg3 rfl (hcc2 0 _ rfl) rfl ?_
              refine WL.assign rfl rfl (WL.nil (WX.then_normal (WC.region (WL.move rfl rfl (WL.move rfl rfl (WL.move rfl rfl (?_)))))))
              have lgf3 := hF.lt
              have fw := wt_at (i := i) (r := q) (by omega)
              refine WL.call eg_100 rfl rfl (weights_calls hF i) ?_
              rintro v w4 ⟨rfl, hR, k4⟩
              replace h15 := h15.chg k4 (fun b _ h1 h2 => by have h3 : b = gf := h2; have h4 : w2.heap.size ≤ b := h1; omega)
              replace hL3' := hL3'.chg k4 (fun b _ h1 h2 => by have h3 : b = gf := h2; have := h1.1; omega)
              replace hk2 := hk2.chg k4 (fun x _ h => h)
              replace hF : Fld w4 gf := .inr hR
              refine WL.move rfl rfl (?_)
              refine WL.aindex (v := v8 (wtq q i)) q Tryz.underlying167 Tryz.sizeOf5 Tryz.isAgg5 rfl rfl ⟨rfl, by omega⟩ (by rw [List.getElem?_toArray, List.getElem?_map, fw]; rfl) rfl ?_
              refine WL.build (e := eb) [wtq q i] Tryz.underlying26 Tryz.sizeOf5 Tryz.zeroValue5 rfl rfl rfl (by simp [Value.cells] <;> rfl) (by decide) rfl ?_
              intro a_qb w_qb qb l_qb z_qb k_qb
              have zs_k_qb := k_qb.size
              replace h15 := h15.pure k_qb
              replace hF := hF.pure k_qb
              replace hL3' := hL3'.pure k_qb
              replace hk2 := hk2.pure k_qb
              have h7 : (((lostL k bad).take j).map (wtq q)).length ≤ 3 := by rw [List.length_map, List.length_take]; omega
              refine WL.append (e := eb) (S := fun b => w2.heap.size ≤ b) info_5 rfl Tryz.underlying26 rfl rfl h15 (qb.rsl.src Tryz.underlying26) (by show ((((lostL k bad).take j).map (wtq q)).length + 1) * 1 ≤ _ ∧ (((lostL k bad).take j).map (wtq q)).length + 1 ≤ _; constructor <;> omega) (fun b hb => by have := hk2.size; omega) rfl ?_
              intro a9 c9 w9 h19 g9 n9
              have k9 := g9.chg
              replace hF := hF.chg k9 (fun h1 => by have := h1.2; omega)
              replace hL3' := hL3'.chg k9 (fun b _ h1 h2 => by have := h2.2; have := h1.1; omega)
              replace hk2 := hk2.chg k9 (fun x hx h => by have := h.2; omega)
              have e9 : ((lostL k bad).take j).map (wtq q) ++ [wtq q i] = ((lostL k bad).take (j + 1)).map (wtq q) := by rw [List.take_add_one, hi]; simp
              rw [e9] at h19 ⊢
              refine WL.assign rfl rfl (WL.nil (WX.block_normal (WX.then_normal (WC.region (WL.add64 rfl rfl (by omega) rfl (WL.move rfl rfl (WL.nil (?_))))))))
              exact WX.loop_next (j + 1, a9, c9) ⟨rfl, rfl, rfl, rfl, rfl, rfl, rfl, rfl, rfl, rfl, rfl, rfl, rfl, trivial⟩ ⟨by show j + 1 ≤ _; omega, h19, hF, hL3', hk2⟩ (by show (lostL k bad).length - (j + 1) < (lostL k bad).length - j; omega)
            ·
              refine WL.nil (WX.then_normal (WC.seq (WC.cond_false rfl (WC.exit (WX.then_exit (WX.then_exit (WX.block_here (?_))))))))
              refine WX.then_normal (WC.region (WL.move rfl rfl (WL.move rfl rfl (?_))))
              have hjl : j = (lostL k bad).length := by omega
              subst hjl
              rw [List.take_length] at h15 ⊢
              replace hG := hG.chg hk2 (fun x h1 _ h2 => by have h3 : x = gf := h2; omega)
              replace hP := hP.chg hk2 ⟨by omega, fun i g h1 h2 => by have h3 : g = gf := h2; have := hP.above i g h1; omega⟩
              replace hO := hO.chg hk2 (fun x _ h1 h2 => by have h3 : x = gf := h2; omega)
              replace hw := hw.chg hk2 (fun x _ h1 => by have h3 : x = gf := h1; show go ≤ x; omega)
              have zk2 := hk2.size
              replace hL := hL3'
              have h15r : RSl (fun x => N0 ≤ x ∧ ¬ Eqb ar x ∧ ¬ Eqb af x) w3 eb a15 c15 ((lostL k bad).map (wtq q)) := h15.rsl.mono (fun b h => by
                have h2 : w2.heap.size ≤ b := h
                exact ⟨by omega, fun e => by have := hbd b (.inl e); omega, fun e => by have := hbd b (.inr e); omega⟩)
              clear hL3'
              have hNw3 : N0 ≤ w3.heap.size := by omega
              refine WL.build (e := erow) [⟨a15, c15, (lostL k bad).map (wtq q)⟩] Tryz.underlying87 Tryz.sizeOf26 Tryz.zeroValue26 rfl rfl rfl (by simp [Value.cells] <;> rfl) (by decide) rfl ?_
              intro a_qr w_qr qr l_qr z_qr k_qr
              have zs_k_qr := k_qr.size
              replace hG := hG.pure k_qr
              replace hP := hP.pure k_qr
              replace hF := hF.pure k_qr
              replace hO := hO.pure k_qr
              replace hL := hL.pure k_qr
              replace hw := hw.pure k_qr
              replace h15r := h15r.pure k_qr
              refine WL.append (e := erow) (S := fun b => N0 ≤ b) info_26 rfl Tryz.underlying87 rfl rfl (hG.outer.mono (fun b h => h.1)) (qr.rsl.src Tryz.underlying87) (by show (ms.length + 1) * 24 ≤ _ ∧ ms.length + 1 ≤ _; constructor <;> omega) (fun b hb => by omega) rfl ?_
              intro a4 c4 w4 hO4 g4 n4
              have hG4 := hG.snocR (r := ⟨a15, c15, (lostL k bad).map (wtq q)⟩) h15r hO4 g4
              have k4 := g4.chg
              replace hP := hP.chg k4 ⟨fun h1 => by have := h1.2; omega, fun i g h1 h2 => by have := h2.2; have := hPl i g h1; omega⟩
              replace hF := hF.chg k4 (fun h1 => by have := h1.2; omega)
              replace hO := hO.chg k4 (fun x _ h1 h2 => by have := h2.2; omega)
              replace hL := hL.chg k4 (fun b _ h1 h2 => by have := h2.2; have := h1.1; omega)
              replace hw := hw.chg k4 (fun x hx h1 => by have := h1.2; show go ≤ x; omega)
              have zk4 := k4.size
              refine WL.move rfl rfl (WL.move rfl rfl (?_))
              refine WL.build (e := ei) [(q : Int)] Tryz.underlying39 Tryz.sizeOf3 Tryz.zeroValue3 rfl rfl rfl (by simp [Value.cells] <;> rfl) (by decide) rfl ?_
              intro a_qn w_qn qn l_qn z_qn k_qn
              have zs_k_qn := k_qn.size
              replace hP := hP.pure k_qn
              replace hF := hF.pure k_qn
              replace hO := hO.pure k_qn
              replace hL := hL.pure k_qn
              replace hw := hw.pure k_qn
              replace hG4 := hG4.pure k_qn
              refine WL.append (e := ei) (xs := li (frP k bad q)) (S := fun b => N0 ≤ b) info_3 rfl Tryz.underlying39 rfl rfl (hG4.nums.mono (fun b h => h.1)) (qn.rsl.src Tryz.underlying39) (by constructor <;> (simp only [List.length_cons, List.length_nil]; omega)) (fun b hb => by omega) rfl ?_
              intro a5 c5 w5 hO5 g5 n5
              have hG5 := hG4.snocN hO5 g5
              have k5 := g5.chg
              replace hP := hP.chg k5 ⟨fun h1 => by have := h1.2; omega, fun i g h1 h2 => by have := h2.2; have := hPl i g h1; omega⟩
              replace hF := hF.chg k5 (fun h1 => by have := h1.2; omega)
              replace hO := hO.chg k5 (fun x _ h1 h2 => by have := h2.2; omega)
              replace hL := hL.chg k5 (fun b _ h1 h2 => by have := h2.2; have := h1.1; omega)
              replace hw := hw.chg k5 (fun x hx h1 => by have := h1.2; show go ≤ x; omega)
              have zk5 := k5.size
              have hNw5 : N0 ≤ w5.heap.size := by omega
              refine WL.assign rfl rfl (WL.assign rfl rfl (WL.nil (WX.block_normal (WX.then_normal (WC.region (WL.move rfl rfl (WL.add64 rfl rfl (by omega) rfl (?_))))))))
              refine WL.assign rfl rfl (WL.nil (?_))
              have hfe := frP_next k bad q
              rw [if_neg hbq] at hfe
              refine WX.loop_next (q + 1, (a4, c4, ms ++ [⟨a15, c15, (lostL k bad).map (wtq q)⟩]), (a5, c5)) ⟨rfl, rfl, rfl, rfl, rfl, rfl, rfl, by show some (Value.slice a5 (li (frP k bad q) ++ [(q : Int)]).length c5) = some (Value.slice a5 (li (frP k bad (q + 1))).length c5); rw [hfe, li_app]; rfl, rfl, trivial⟩ ⟨⟨by show q + 1 ≤ 3; omega, ?_⟩, ⟨?_, fun a q' r' h1 h2 => ?_⟩, ?_, hNw5, hP, hF, hO, hL, hw⟩ (by show 3 - (q + 1) < 3 - q; omega)
              ·
                show (frP k bad (q + 1)).length ≤ _
                rw [hfe, List.length_append]
                show _ + 1 ≤ _
                omega
              ·
                show (ms ++ [_]).length = (frP k bad (q + 1)).length
                rw [hfe, List.length_append, List.length_append, hml]
                rfl
              ·
                have h1' : (frP k bad (q + 1))[a]? = some q' := h1
                have h2' : (ms ++ [⟨a15, c15, (lostL k bad).map (wtq q)⟩])[a]? = some r' := h2
                rw [hfe] at h1'
                rcases get_snoc h1' with h3 | ⟨h3, h4⟩ <;> rcases get_snoc h2' with h5 | ⟨h5, h6⟩
                ·
                  exact hms a q' r' h3 h5
                ·
                  have := (List.getElem?_eq_some_iff.1 h3).1
                  omega
                ·
                  have := (List.getElem?_eq_some_iff.1 h5).1
                  omega
                ·
                  rw [h6, h4]
              ·
                show GA N0 _ _ _ a4 c4 (ms ++ [_]) a5 c5 (frP k bad (q + 1))
                rw [hfe]
                exact hG5
        ·
          refine WL.pickT rfl rfl rfl (WL.nil (WX.then_normal (WC.cond_false rfl (WC.exit (WX.then_exit (WX.then_exit (WX.block_here (?_))))))))
          have hfd := frP_done (k := k) (bad := bad) (q := q) hq3 hfq (by omega)
          rw [hfd] at hml hms hG
          exact WX.cutN ((ar, cr, ms), (af, cf)) ⟨rfl, rfl, rfl, rfl, rfl, rfl, rfl, by show some (Value.slice af (li (frP k bad q)).length cf) = _; rw [hfd], trivial⟩ ⟨⟨hml, hms⟩, hG, hNw, hP, hF, hO, hL, hw⟩
      ·
        refine WL.move rfl rfl (WL.pass rfl rfl rfl rfl (WL.pass rfl rfl rfl rfl (WL.pass rfl rfl rfl rfl (WL.pass rfl rfl rfl rfl (WL.pass rfl rfl rfl rfl (WL.pickF rfl rfl rfl (WL.nil (?_))))))))
        refine WX.then_normal (WC.cond_false rfl (WC.exit (WX.then_exit (WX.then_exit (WX.block_here (?_))))))
        have hfd := frP_done (k := k) (bad := bad) (q := q) hq3 hfq (by omega)
        rw [hfd] at hml hms hG
        exact WX.cutN ((ar, cr, ms), (af, cf)) ⟨rfl, rfl, rfl, rfl, rfl, rfl, rfl, by show some (Value.slice af (li (frP k bad q)).length cf) = _; rw [hfd], trivial⟩ ⟨⟨hml, hms⟩, hG, hNw, hP, hF, hO, hL, hw⟩
    ·
      clear hG hP hF hO hL hw
      rintro ⟨⟨ar, cr, ms⟩, af, cf⟩ w2 ⟨⟨hml, hms⟩, hG, hNw, hP, hF, hO, hL, hw⟩
      simp only at hml hms hG
      dsimp only
      obtain ⟨N1, hN1'⟩ : ∃ N1, N1 = w2.heap.size := ⟨_, rfl⟩
      have hMs : RS (fun x => N0 ≤ x ∧ x < N1) w2 ar cr ms := ⟨hG.outer.rsl.lt.mono (fun b h => ⟨h.1.1, by have := h.2; omega⟩), fun r h => (hG.inner r h).lt.mono (fun b h => ⟨h.1.1, by have := h.2; omega⟩)⟩
      have hNs : RSl (fun x => N0 ≤ x ∧ x < N1) w2 ei af cf (li (fromL k bad)) := hG.nums.rsl.lt.mono (fun b h => ⟨h.1.1, by have := h.2; omega⟩)
      have hPs : RS (fun x => gf < x ∧ x < N0) w2 (some ⟨g2, 0, none⟩) 3 (orows gs n PP) := hP.rs ⟨by omega, by omega⟩ (fun i g h => ⟨by have := hP.above i g h; omega, hPl i g h⟩)
      have hgl := hP.len
      have hol : (orows gs n PP).length = 3 := by rw [orows_len hgl, hgs3]
      have hNw1 : N1 ≤ w2.heap.size := by omega
      have hlF := li_len (fromL k bad)
      have hN01 : N0 ≤ N1 := by omega
      clear hG hP hNw
      refine WX.then_normal (WC.seq (WC.seq (WC.region (WL.move rfl rfl (WL.move rfl rfl (WL.nil (WX.then_normal (?_))))))))
      refine WC.block (?_)
      refine WC.loop (σ := Nat × List Rw) (fun s => [(0, .pointer (some ⟨gf, 0, none⟩)), (1, .slice (some ⟨go, 0, none⟩) rs.length rs.length), (2, vi k), (4, .slice al (li (lostL k bad)).length cl), (11, .slice (some ⟨g2, 0, none⟩) 3 3), (12, .slice ar ms.length cr), (13, .slice af (li (fromL k bad)).length cf), (77, vi n), (78, vi s.1)])
        (fun s w' => s.1 ≤ n ∧ HealI rs s.2 k (lostL k bad) (fromL k bad) s.1 ∧ N1 ≤ w'.heap.size ∧ RS (fun x => N0 ≤ x ∧ x < N1) w' ar cr ms ∧ RSl (fun x => N0 ≤ x ∧ x < N1) w' ei af cf (li (fromL k bad)) ∧ RS (fun x => gf < x ∧ x < N0) w' (some ⟨g2, 0, none⟩) 3 (orows gs n PP) ∧ Fld w' gf ∧ OB w' 26 5 go gf s.2 ∧ RSl (Off rs go gf) w' ei al cl (li (lostL k bad)) ∧ Chg (fun x => go ≤ x) w w') (fun s => n - s.1) (0, rs) ⟨rfl, rfl, rfl, rfl, rfl, rfl, rfl, rfl, rfl, trivial⟩ ⟨Nat.zero_le _, HealI.start _ _ _ _, hNw1, hMs, hNs, hPs, hF, hO, hL, hw⟩ ?_
      clear hMs hNs hPs hF hO hL hw hNw1
      rintro ⟨t, rs2⟩ w3 ⟨ht, hH, hNw, hMs, hNs, hPs, hF, hO, hL, hw⟩
      simp only at ht hH hO
      dsimp only
      refine WC.seq (WC.region (?_))
      refine WL.lss? rfl rfl rfl (fun h79 => ?_) (fun h79 => ?_)
      ·
        refine WL.nil (WX.then_normal (WC.seq (WC.cond_true rfl (WC.skip (WX.then_normal (WC.seq (WC.block (?_))))))))
        refine WC.seq (WC.region (WL.move rfl rfl (WL.assign rfl rfl (WL.nil (WX.then_normal (WC.seq (WC.region (?_))))))))
        refine WL.assign rfl rfl (WL.nil (WX.then_normal (WC.seq (WC.seq (WC.region (WL.move rfl rfl (WL.len Tryz.underlying39 rfl rfl (?_))))))))
        refine WL.move rfl rfl (WL.nil (WX.then_normal (WC.block (?_))))
        obtain ⟨rf, hrf⟩ : ∃ rf : Nat → UInt8, rf = fun q => sumF k (fun j => mul (wtq q j) (fn (mx rs) j t)) ^^^ fn (mx rs) (k + q) t := ⟨_, rfl⟩
        have h19 : Row (fun b => N1 ≤ b) w3 5 eb none 0 (((fromL k bad).take 0).map rf) := Row.nil _ _ _ _
        refine WC.loop (σ := Nat × (Option Addr × Nat)) (fun s => [(0, .pointer (some ⟨gf, 0, none⟩)), (1, .slice (some ⟨go, 0, none⟩) rs.length rs.length), (2, vi k), (4, .slice al (li (lostL k bad)).length cl), (11, .slice (some ⟨g2, 0, none⟩) 3 3), (12, .slice ar ms.length cr), (13, .slice af (li (fromL k bad)).length cf), (18, vi t), (19, .slice s.2.1 (((fromL k bad).take s.1).map rf).length s.2.2), (77, vi n), (78, vi t), (81, .slice af (li (fromL k bad)).length cf), (82, vi (li (fromL k bad)).length), (83, vi s.1)])
          (fun s w' => s.1 ≤ (fromL k bad).length ∧ Row (fun b => N1 ≤ b) w' 5 eb s.2.1 s.2.2 (((fromL k bad).take s.1).map rf) ∧ N1 ≤ w'.heap.size ∧ RS (fun x => N0 ≤ x ∧ x < N1) w' ar cr ms ∧ RSl (fun x => N0 ≤ x ∧ x < N1) w' ei af cf (li (fromL k bad)) ∧ RS (fun x => gf < x ∧ x < N0) w' (some ⟨g2, 0, none⟩) 3 (orows gs n PP) ∧ Fld w' gf ∧ OB w' 26 5 go gf rs2 ∧ Chg (fun x => N1 ≤ x) w3 w') (fun s => (fromL k bad).length - s.1) (0, none, 0) ⟨rfl, rfl, rfl, rfl, rfl, rfl, rfl, rfl, rfl, rfl, rfl, rfl, rfl, rfl, trivial⟩ ⟨Nat.zero_le _, h19, hNw, hMs, hNs, hPs, hF, hO, Chg.refl _ _⟩ ?_
        clear h19 hMs hNs hPs hF hO hNw
        rintro ⟨a, a19, c19⟩ w4 ⟨ha, h19, hNw, hMs, hNs, hPs, hF, hO, hk4⟩
        simp only at ha h19
        dsimp only
        refine WC.seq (WC.region (?_))
        refine WL.lss? rfl rfl rfl (fun h84 => ?_) (fun h84 => ?_)
        ·
          refine WL.nil (WX.then_normal (WC.seq (WC.cond_true rfl (WC.skip (WX.then_normal (WC.seq (WC.block (?_))))))))
          refine WC.seq (WC.region (?_))
          obtain ⟨q, hq⟩ : ∃ q, (fromL k bad)[a]? = some q := ⟨_, List.getElem?_eq_getElem (by omega)⟩
          obtain ⟨hq3, hqb⟩ := from_mem (List.mem_of_getElem? hq)
          refine WL.indexT (e := ei) Tryz.underlying39 Tryz.sizeOf3 hNs rfl rfl ⟨li_at hq, rfl⟩ rfl ?_
          intro bb4 oo4 hcc4
          refine WL.load Tryz.isAgg3 rfl (hcc4 0 _ rfl) rfl ?_
          refine WL.assign rfl rfl (WL.nil (WX.then_normal (?_)))
          obtain ⟨x, hPx, hxt⟩ := hPf q hq3 t (by omega)
          obtain ⟨gp, hgp⟩ : ∃ g, gs[q]? = some g := ⟨_, List.getElem?_eq_getElem (by omega)⟩
          have hpx : (orows gs n PP)[q]? = some ⟨some ⟨gp, 0, none⟩, n, x⟩ := by
            have := orows_at (tl := []) (n := n) hgp hPx
            rwa [List.append_nil] at this
          obtain ⟨r2, hr2⟩ : ∃ r, rs2[k + q]? = some r := ⟨_, List.getElem?_eq_getElem (by rw [hH.len]; omega)⟩
          obtain ⟨r0, hr0, hao0, hcap0, hlen0, hxs0⟩ := hH.back hr2
          obtain ⟨gr, hgr, hrl⟩ := hreal (k + q) r0 hr0 (fun h => hqb h.2)
          obtain ⟨y, hy⟩ : ∃ y, r2.xs[t]? = some y := ⟨_, List.getElem?_eq_getElem (by omega)⟩
          have hqL : k + q ∉ lostL k bad := fun h => by have := (lost_mem.1 h).1; omega
          have hyf : fn (mx rs) (k + q) t = y := by rw [← hH.same hqL, fn_at1 (mx_at hr2), List.getD_eq_getElem?_getD, hy]; rfl
          have hgr2 : r2.ao = some ⟨gr, 0, none⟩ := by rw [hao0, hgr]
          have h7 : (((fromL k bad).take a).map rf).length ≤ 3 := by rw [List.length_map, List.length_take]; omega
          refine WC.draw ((fun x => N1 ≤ x)) [0, 1, 2, 3, 4, 5, 6, 7, 8, 9, 10, 11, 12, 13, 14, 15, 16, 17] [18, 19, 20] mixed rfl rfl (fun wd_1 kd_1 zd_1 => ?_)
          have zs_kd_1 := kd_1.size
          replace h19 := h19.pure kd_1
          replace hMs := hMs.pure kd_1
          replace hNs := hNs.pure kd_1
          replace hPs := hPs.pure kd_1
          replace hF := hF.pure kd_1
          replace hO := hO.pure kd_1
          replace hk4 := hk4.pure kd_1
          apply DQ.step (E' := [(19, _)])
          case ho => rfl
          case hs => exact ⟨rfl, trivial⟩
          case hk => rfl
          case h1 =>
            intro wq_3 kq_3
            refine WL.move rfl rfl (?_)
            refine WL.nil ?_
            exact WX.one ⟨rfl, by exact Chg.refl _ _⟩
          apply DQ.step (E' := [(11, _)])
          case ho => rfl
          case hs => exact ⟨rfl, trivial⟩
          case hk => rfl
          case h1 =>
            intro wq_4 kq_4
            refine WL.move rfl rfl (?_)
            refine WL.nil ?_
            exact WX.one ⟨rfl, by exact Chg.refl _ _⟩
          apply DQ.step (E' := [(21, _)])
          case ho => rfl
          case hs => exact ⟨rfl, trivial⟩
          case hk => rfl
          case h1 =>
            intro wq_5 kq_5
            refine WL.move rfl rfl (?_)
            refine WL.nil ?_
            exact WX.one ⟨rfl, by exact Chg.refl _ _⟩
          apply DQ.step (E' := [(88, _), (89, _)])
          case ho => rfl
          case hs => exact ⟨rfl, rfl, trivial⟩
          case hk => rfl
          case h1 =>
            intro wq_6 kq_6
            have zs_kq_6 := kq_6.size
            replace hMs := hMs.chg kq_6 (by intros; exfalso; (try dsimp only at *); omega)
            replace hNs := hNs.chg kq_6 (by intros; exfalso; (try dsimp only at *); omega)
            replace hPs := hPs.chg kq_6 (by intros; exfalso; (try dsimp only at *); omega)
            replace hF := hF.chg kq_6 (by intro h1; have h2 : _ ≤ _ := h1; exfalso; omega)
            replace hO := hO.chg kq_6 (by intros; exfalso; (try dsimp only at *); omega)
            replace hk4 := hk4.chg kq_6 (by intro x h1 h2; exact h2)
            refine WL.indexC (e := erow) hPs.outer Tryz.underlying87 Tryz.sizeOf26 (by show some (Value.slice _ 3 3) = some (Value.slice _ (orows gs n PP).length 3); rw [hol]) rfl ⟨hpx, rfl⟩ rfl ?_
            refine WL.nil ?_
            exact WX.one ⟨rfl, by exact Chg.refl _ _⟩
          apply DQ.step (E' := [(90, _)])
          case ho => rfl
          case hs => exact ⟨rfl, trivial⟩
          case hk => rfl
          case h1 =>
            intro wq_7 kq_7
            have zs_kq_7 := kq_7.size
            replace hMs := hMs.chg kq_7 (by intros; exfalso; (try dsimp only at *); omega)
            replace hNs := hNs.chg kq_7 (by intros; exfalso; (try dsimp only at *); omega)
            replace hPs := hPs.chg kq_7 (by intros; exfalso; (try dsimp only at *); omega)
            replace hF := hF.chg kq_7 (by intro h1; have h2 : _ ≤ _ := h1; exfalso; omega)
            replace hO := hO.chg kq_7 (by intros; exfalso; (try dsimp only at *); omega)
            replace hk4 := hk4.chg kq_7 (by intro x h1 h2; exact h2)
            refine WL.load Tryz.isAgg26 rfl ((hPs.outer.cellsAt hpx) 0 _ rfl) rfl ?_
            refine WL.nil ?_
            exact WX.one ⟨rfl, by exact Chg.refl _ _⟩
          apply DQ.step (E' := [(18, _)])
          case ho => rfl
          case hs => exact ⟨rfl, trivial⟩
          case hk => rfl
          case h1 =>
            intro wq_8 kq_8
            refine WL.move rfl rfl (?_)
            refine WL.nil ?_
            exact WX.one ⟨rfl, by exact Chg.refl _ _⟩
          apply DQ.step (E' := [(91, _), (92, _)])
          case ho => rfl
          case hs => exact ⟨rfl, rfl, trivial⟩
          case hk => rfl
          case h1 =>
            intro wq_9 kq_9
            have zs_kq_9 := kq_9.size
            replace hMs := hMs.chg kq_9 (by intros; exfalso; (try dsimp only at *); omega)
            replace hNs := hNs.chg kq_9 (by intros; exfalso; (try dsimp only at *); omega)
            replace hPs := hPs.chg kq_9 (by intros; exfalso; (try dsimp only at *); omega)
            replace hF := hF.chg kq_9 (by intro h1; have h2 : _ ≤ _ := h1; exfalso; omega)
            replace hO := hO.chg kq_9 (by intros; exfalso; (try dsimp only at *); omega)
            replace hk4 := hk4.chg kq_9 (by intro x h1 h2; exact h2)
            refine WL.indexC (e := eb) (hPs.at hpx) Tryz.underlying26 Tryz.sizeOf5 rfl rfl ⟨hxt, rfl⟩ rfl ?_
            refine WL.nil ?_
            exact WX.one ⟨rfl, by exact Chg.refl _ _⟩
          apply DQ.step (E' := [(93, _)])
          case ho => rfl
          case hs => exact ⟨rfl, trivial⟩
          case hk => rfl
          case h1 =>
            intro wq_10 kq_10
            have zs_kq_10 := kq_10.size
            replace hMs := hMs.chg kq_10 (by intros; exfalso; (try dsimp only at *); omega)
            replace hNs := hNs.chg kq_10 (by intros; exfalso; (try dsimp only at *); omega)
            replace hPs := hPs.chg kq_10 (by intros; exfalso; (try dsimp only at *); omega)
            replace hF := hF.chg kq_10 (by intro h1; have h2 : _ ≤ _ := h1; exfalso; omega)
            replace hO := hO.chg kq_10 (by intros; exfalso; (try dsimp only at *); omega)
            replace hk4 := hk4.chg kq_10 (by intro x h1 h2; exact h2)
            refine WL.load Tryz.isAgg5 rfl (((hPs.at hpx).cellsAt hxt) 0 _ rfl) rfl ?_
            refine WL.nil ?_
            exact WX.one ⟨rfl, by exact Chg.refl _ _⟩
          apply DQ.step (E' := [(1, _)])
          case ho => rfl
          case hs => exact ⟨rfl, trivial⟩
          case hk => rfl
          case h1 =>
            intro wq_11 kq_11
            refine WL.move rfl rfl (?_)
            refine WL.nil ?_
            exact WX.one ⟨rfl, by exact Chg.refl _ _⟩
          apply DQ.step (E' := [(2, _)])
          case ho => rfl
          case hs => exact ⟨rfl, trivial⟩
          case hk => rfl
          case h1 =>
            intro wq_12 kq_12
            refine WL.move rfl rfl (?_)
            refine WL.nil ?_
            exact WX.one ⟨rfl, by exact Chg.refl _ _⟩
          apply DQ.step (E' := [(21, _)])
          case ho => rfl
          case hs => exact ⟨rfl, trivial⟩
          case hk => rfl
          case h1 =>
            intro wq_13 kq_13
            refine WL.move rfl rfl (?_)
            refine WL.nil ?_
            exact WX.one ⟨rfl, by exact Chg.refl _ _⟩
          apply DQ.step (E' := [(96, _), (97, _)])
          case ho => rfl
          case hs => exact ⟨rfl, rfl, trivial⟩
          case hk => rfl
          case h1 =>
            intro wq_14 kq_14
            refine WL.add64 rfl rfl (by constructor <;> omega) rfl ?_
            refine WL.nil ?_
            exact WX.one ⟨rfl, by exact Chg.refl _ _⟩
          apply DQ.step (E' := [(95, _), (98, _)])
          case ho => rfl
          case hs => exact ⟨rfl, rfl, trivial⟩
          case hk => rfl
          case h1 =>
            intro wq_15 kq_15
            have zs_kq_15 := kq_15.size
            replace hMs := hMs.chg kq_15 (by intros; exfalso; (try dsimp only at *); omega)
            replace hNs := hNs.chg kq_15 (by intros; exfalso; (try dsimp only at *); omega)
            replace hPs := hPs.chg kq_15 (by intros; exfalso; (try dsimp only at *); omega)
            replace hF := hF.chg kq_15 (by intro h1; have h2 : _ ≤ _ := h1; exfalso; omega)
            replace hO := hO.chg kq_15 (by intros; exfalso; (try dsimp only at *); omega)
            replace hk4 := hk4.chg kq_15 (by intro x h1 h2; exact h2)
            refine WL.indexC (e := erow) hO.outer.rsl Tryz.underlying87 Tryz.sizeOf26 (by show some (Value.slice _ rs.length rs.length) = some (Value.slice _ rs2.length rs2.length); rw [hH.len]) rfl ⟨hr2, by omega⟩ rfl ?_
            refine WL.nil ?_
            exact WX.one ⟨rfl, by exact Chg.refl _ _⟩
          apply DQ.step (E' := [(99, _)])
          case ho => rfl
          case hs => exact ⟨rfl, trivial⟩
          case hk => rfl
          case h1 =>
            intro wq_16 kq_16
            have zs_kq_16 := kq_16.size
            replace hMs := hMs.chg kq_16 (by intros; exfalso; (try dsimp only at *); omega)
            replace hNs := hNs.chg kq_16 (by intros; exfalso; (try dsimp only at *); omega)
            replace hPs := hPs.chg kq_16 (by intros; exfalso; (try dsimp only at *); omega)
            replace hF := hF.chg kq_16 (by intro h1; have h2 : _ ≤ _ := h1; exfalso; omega)
            replace hO := hO.chg kq_16 (by intros; exfalso; (try dsimp only at *); omega)
            replace hk4 := hk4.chg kq_16 (by intro x h1 h2; exact h2)
            refine WL.load Tryz.isAgg26 rfl ((hO.outer.rsl.cellsAt hr2) 0 _ rfl) rfl ?_
            refine WL.nil ?_
            exact WX.one ⟨rfl, by exact Chg.refl _ _⟩
          apply DQ.step (E' := [(18, _)])
          case ho => rfl
          case hs => exact ⟨rfl, trivial⟩
          case hk => rfl
          case h1 =>
            intro wq_17 kq_17
            refine WL.move rfl rfl (?_)
            refine WL.nil ?_
            exact WX.one ⟨rfl, by exact Chg.refl _ _⟩
          apply DQ.step (E' := [(100, _), (101, _)])
          case ho => rfl
          case hs => exact ⟨rfl, rfl, trivial⟩
          case hk => rfl
          case h1 =>
            intro wq_18 kq_18
            have zs_kq_18 := kq_18.size
            replace hMs := hMs.chg kq_18 (by intros; exfalso; (try dsimp only at *); omega)
            replace hNs := hNs.chg kq_18 (by intros; exfalso; (try dsimp only at *); omega)
            replace hPs := hPs.chg kq_18 (by intros; exfalso; (try dsimp only at *); omega)
            replace hF := hF.chg kq_18 (by intro h1; have h2 : _ ≤ _ := h1; exfalso; omega)
            replace hO := hO.chg kq_18 (by intros; exfalso; (try dsimp only at *); omega)
            replace hk4 := hk4.chg kq_18 (by intro x h1 h2; exact h2)
            have hrr := (hO.at hr2 hgr2).2.rsl
            refine WL.indexC (e := eb) hrr Tryz.underlying26 Tryz.sizeOf5 (by show some (Value.slice r2.ao _ _) = _; rw [hgr2]) rfl ⟨hy, rfl⟩ rfl ?_
            refine WL.nil ?_
            exact WX.one ⟨rfl, by exact Chg.refl _ _⟩
          apply DQ.step (E' := [(102, _)])
          case ho => rfl
          case hs => exact ⟨rfl, trivial⟩
          case hk => rfl
          case h1 =>
            intro wq_19 kq_19
            have zs_kq_19 := kq_19.size
            replace hMs := hMs.chg kq_19 (by intros; exfalso; (try dsimp only at *); omega)
            replace hNs := hNs.chg kq_19 (by intros; exfalso; (try dsimp only at *); omega)
            replace hPs := hPs.chg kq_19 (by intros; exfalso; (try dsimp only at *); omega)
            replace hF := hF.chg kq_19 (by intro h1; have h2 : _ ≤ _ := h1; exfalso; omega)
            replace hO := hO.chg kq_19 (by intros; exfalso; (try dsimp only at *); omega)
            replace hk4 := hk4.chg kq_19 (by intro x h1 h2; exact h2)
            have hrr := (hO.at hr2 hgr2).2.rsl
            refine WL.load Tryz.isAgg5 rfl ((hrr.cellsAt hy) 0 _ rfl) rfl ?_
            refine WL.nil ?_
            exact WX.one ⟨rfl, by exact Chg.refl _ _⟩
          apply DQ.step (E' := [(94, _), (103, _)])
          case ho => rfl
          case hs => exact ⟨rfl, rfl, trivial⟩
          case hk => rfl
          case h1 =>
            intro wq_20 kq_20
            refine WL.num rfl rfl (n_xor8 _ _ _ _) rfl (?_)
            refine WL.nil ?_
            exact WX.one ⟨rfl, by exact Chg.refl _ _⟩
          refine DQ.done (fun hd_2 => ?_)
          refine DL.step [(104, _)] rfl ⟨rfl, trivial⟩ rfl (fun wq_21 kq_21 => ?_)
          have zs_kq_21 := kq_21.size
          replace h19 := h19.pure kq_21
          replace hMs := hMs.pure kq_21
          replace hNs := hNs.pure kq_21
          replace hPs := hPs.pure kq_21
          replace hF := hF.pure kq_21
          replace hO := hO.pure kq_21
          replace hk4 := hk4.pure kq_21
          replace hd_2 := hd_2.pure kq_21
          refine WL.build (e := eb) [sumF k (fun j => mul (wtq q j) (fn (mx rs) j t)) ^^^ y] Tryz.underlying26 Tryz.sizeOf5 Tryz.zeroValue5 rfl rfl rfl (by simp [Value.cells] <;> rfl) (by decide) rfl ?_
          intro a_qb2 w_qb2 qb2 l_qb2 z_qb2 k_qb2
          have zs_k_qb2 := k_qb2.size
          replace h19 := h19.pure k_qb2
          replace hMs := hMs.pure k_qb2
          replace hNs := hNs.pure k_qb2
          replace hPs := hPs.pure k_qb2
          replace hF := hF.pure k_qb2
          replace hO := hO.pure k_qb2
          replace hk4 := hk4.pure k_qb2
          replace hd_2 := hd_2.pure k_qb2
          refine WL.nil ?_
          refine WX.one ⟨hd_2, ?_⟩
          refine DL.step [(87, _), (105, _)] rfl ⟨rfl, rfl, trivial⟩ rfl (fun wq_22 kq_22 => ?_)
          have zs_kq_22 := kq_22.size
          replace h19 := h19.pure kq_22
          replace hMs := hMs.pure kq_22
          replace hNs := hNs.pure kq_22
          replace hPs := hPs.pure kq_22
          replace hF := hF.pure kq_22
          replace hO := hO.pure kq_22
          replace hk4 := hk4.pure kq_22
          replace hd_2 := hd_2.pure kq_22
          replace qb2 := qb2.pure kq_22
          refine WL.append (e := eb) (S := fun b => N1 ≤ b) info_5 rfl Tryz.underlying26 rfl rfl h19 (qb2.rsl.src Tryz.underlying26) (by show ((((fromL k bad).take a).map rf).length + 1) * 1 ≤ _ ∧ (((fromL k bad).take a).map rf).length + 1 ≤ _; constructor <;> omega) (fun b hb => by omega) rfl ?_
          intro a9 c9 w9 h29 g9 n9
          have k9 := g9.chg.mono (M' := fun x => N1 ≤ x) (fun x _ hx => hx.2)
          have e9 : ((fromL k bad).take a).map rf ++ [sumF k (fun j => mul (wtq q j) (fn (mx rs) j t)) ^^^ y] = ((fromL k bad).take (a + 1)).map rf := by rw [List.take_add_one, hq, hrf]; simp [hyf]
          rw [e9] at h29 ⊢
          have zs_k9 := k9.size
          replace hMs := hMs.chg k9 (by intros; exfalso; (try dsimp only at *); omega)
          replace hNs := hNs.chg k9 (by intros; exfalso; (try dsimp only at *); omega)
          replace hPs := hPs.chg k9 (by intros; exfalso; (try dsimp only at *); omega)
          replace hF := hF.chg k9 (by intro h1; have h2 : _ ≤ _ := h1; exfalso; omega)
          replace hO := hO.chg k9 (by intros; exfalso; (try dsimp only at *); omega)
          replace hk4 := hk4.chg k9 (by intro x h1 h2; exact h2)
          replace hd_2 := hd_2.chg k9 (by intro x h1 h2; exact h2)
          refine WL.nil ?_
          refine WX.one ⟨hd_2, ?_⟩
          refine DL.step [(106, _)] rfl ⟨rfl, trivial⟩ rfl (fun wq_23 kq_23 => ?_)
          have zs_kq_23 := kq_23.size
          replace hMs := hMs.pure kq_23
          replace hNs := hNs.pure kq_23
          replace hPs := hPs.pure kq_23
          replace hF := hF.pure kq_23
          replace hO := hO.pure kq_23
          replace hk4 := hk4.pure kq_23
          replace hd_2 := hd_2.pure kq_23
          replace h29 := h29.pure kq_23
          refine WL.assign rfl rfl (?_)
          refine WL.nil ?_
          refine WX.one ⟨hd_2, ?_⟩
          refine DL.done (fun we_24 ke_24 => ?_)
          have zs_ke_24 := ke_24.size
          replace hMs := hMs.pure ke_24
          replace hNs := hNs.pure ke_24
          replace hPs := hPs.pure ke_24
          replace hF := hF.pure ke_24
          replace hO := hO.pure ke_24
          replace hk4 := hk4.pure ke_24
          replace hd_2 := hd_2.pure ke_24
          replace h29 := h29.pure ke_24
          refine WX.block_normal (WX.then_normal (WC.region (WL.add64 rfl rfl (by omega) rfl (WL.move rfl rfl (WL.nil (?_))))))
          exact WX.loop_next (a + 1, a9, c9) ⟨rfl, rfl, rfl, rfl, rfl, rfl, rfl, rfl, rfl, rfl, rfl, rfl, rfl, rfl, trivial⟩ ⟨by show a + 1 ≤ _; omega, h29, by omega, hMs, hNs, hPs, hF, hO, hk4⟩ (by show (fromL k bad).length - (a + 1) < (fromL k bad).length - a; omega)
        ·
          refine WL.nil (WX.then_normal (WC.seq (WC.cond_false rfl (WC.exit (WX.then_exit (WX.then_exit (WX.block_here (?_))))))))
          refine WX.then_normal (WC.seq (WC.region (WL.move rfl rfl (WL.move rfl rfl (WL.move rfl rfl (?_))))))
          have hal2 : a = (fromL k bad).length := by omega
          subst hal2
          rw [List.take_length] at h19 ⊢
          replace hL := hL.chg hk4 (fun b _ h1 h2 => by have h3 : N1 ≤ b := h2; have := h1.1; omega)
          replace hw := hw.chg hk4 (fun x _ h1 => by have h3 : N1 ≤ x := h1; show go ≤ x; omega)
          have hqr : RSl (fun b => b ≠ gf) _ eb a19 c19 ((fromL k bad).map rf) := h19.rsl.mono (fun b h => by have h2 : N1 ≤ b := h; omega)
          have hrl2 : ((fromL k bad).map rf).length = (lostL k bad).length := by rw [List.length_map, hfl]
          refine WL.call eg_101 rfl rfl (Solve_calls hF (hMs.mono (S' := fun b => b ≠ gf) (fun b h => by omega)) hqr (by omega) (by omega)) ?_
          rintro v w5 ⟨⟨ax, cx, xo, e, rfl, hS, hX⟩, hF5, k5⟩
          obtain ⟨rfl, hxl, hxe⟩ := sol_good hk.2 hb3 (by omega) (by rw [mx_len, hml, hfl]) (fun a' q' r' h1 h2 => by
            obtain ⟨rr, h3, rfl⟩ : ∃ rr, ms[a']? = some rr ∧ rr.xs = r' := by
              rw [mx, List.getElem?_map] at h2
              cases h4 : ms[a']? with
              | none => rw [h4] at h2; cases h2
              | some rr => rw [h4] at h2; injection h2 with h2; exact ⟨rr, rfl, h2⟩
            exact hms a' q' rr h1 h3) hrl2 hS
          replace hMs := hMs.chg k5 (fun b _ h1 h2 => by have h3 : b = gf := h2; have := h1.1; omega)
          replace hPs := hPs.chg k5 (fun b _ h1 h2 => by have h3 : b = gf := h2; have := h1.1; omega)
          have hXr : RSl (fun x => N1 ≤ x) w5 eb ax cx xo := hX.rsl.mono (fun b h => by omega)
          replace hNs := hNs.chg k5 (fun b _ h1 h2 => by have h3 : b = gf := h2; have := h1.1; omega)
          replace hO := hO.chg k5 (fun x _ h1 h2 => by have h3 : x = gf := h2; omega)
          replace hL := hL.chg k5 (fun b _ h1 h2 => by have h3 : b = gf := h2; have := h1.1; omega)
          replace hw := hw.chg k5 (fun x _ h1 => by have h3 : x = gf := h1; show go ≤ x; omega)
          replace hF := hF5
          have zk5 := k5.size
          have hNw5 : N1 ≤ w5.heap.size := by omega
          clear hX
          refine WL.move rfl rfl (WL.extract rfl rfl rfl (WL.extract rfl rfl rfl (WL.assign rfl rfl (WL.assign rfl rfl (WL.nil (WX.then_normal (WC.seq (?_))))))))
          refine WC.seq (WC.region (WL.move rfl rfl (?_)))
          refine WL.neqF rfl rfl rfl (by rfl) ?_
          refine WL.nil (WX.then_normal (WC.cond_false rfl (WC.skip (WX.then_normal (WC.seq (WC.region (WL.move rfl rfl (?_))))))))
          refine WL.len Tryz.underlying39 rfl rfl (WL.move rfl rfl (WL.nil (WX.then_normal (WC.block (?_)))))
          refine WC.loop (σ := Nat × List Rw) (fun s => [(0, .pointer (some ⟨gf, 0, none⟩)), (1, .slice (some ⟨go, 0, none⟩) rs.length rs.length), (2, vi k), (4, .slice al (li (lostL k bad)).length cl), (11, .slice (some ⟨g2, 0, none⟩) 3 3), (12, .slice ar ms.length cr), (13, .slice af (li (fromL k bad)).length cf), (18, vi t), (22, .slice ax xo.length cx), (77, vi n), (78, vi t), (118, .slice al (li (lostL k bad)).length cl), (119, vi (li (lostL k bad)).length), (120, vi s.1)])
            (fun s w' => s.1 ≤ (lostL k bad).length ∧ HealI rs s.2 k (lostL k bad) (fromL k bad) t ∧ (∀ (b' i' : Nat), b' < s.1 → (lostL k bad)[b']? = some i' → fn (mx s.2) i' t = xo.getD b' 0) ∧ N1 ≤ w'.heap.size ∧ RSl (fun x => N1 ≤ x) w' eb ax cx xo ∧ RS (fun x => N0 ≤ x ∧ x < N1) w' ar cr ms ∧ RSl (fun x => N0 ≤ x ∧ x < N1) w' ei af cf (li (fromL k bad)) ∧ RS (fun x => gf < x ∧ x < N0) w' (some ⟨g2, 0, none⟩) 3 (orows gs n PP) ∧ Fld w' gf ∧ OB w' 26 5 go gf s.2 ∧ RSl (Off rs go gf) w' ei al cl (li (lostL k bad)) ∧ Chg (fun x => go ≤ x) w w') (fun s => (lostL k bad).length - s.1) (0, rs2) ⟨rfl, rfl, rfl, rfl, rfl, rfl, rfl, rfl, rfl, rfl, rfl, rfl, rfl, rfl, trivial⟩ ⟨Nat.zero_le _, hH, fun b' i' h => absurd h (Nat.not_lt_zero _), hNw5, hXr, hMs, hNs, hPs, hF, hO, hL, hw⟩ ?_
          clear hXr hMs hNs hPs hF hO hL hw hNw5 hNw
          rintro ⟨b, rs3⟩ w6 ⟨hbL, hH3, hV, hNw, hXr, hMs, hNs, hPs, hF, hO, hL, hw⟩
          simp only at hbL hH3 hV hO
          dsimp only
          refine WC.seq (WC.region (?_))
          refine WL.lss? rfl rfl rfl (fun h121 => ?_) (fun h121 => ?_)
          ·
            refine WL.nil (WX.then_normal (WC.seq (WC.cond_true rfl (WC.skip (WX.then_normal (WC.seq (WC.block (?_))))))))
            refine WC.seq (WC.region (WL.move rfl rfl (?_)))
            obtain ⟨i, hi⟩ : ∃ i, (lostL k bad)[b]? = some i := ⟨_, List.getElem?_eq_getElem (by omega)⟩
            have hiL := List.mem_of_getElem? hi
            have hik := (lost_mem.1 hiL).1
            refine WL.indexT (e := ei) Tryz.underlying39 Tryz.sizeOf3 hL rfl rfl ⟨li_at hi, rfl⟩ rfl ?_
            intro bb6 oo6 hcc6
            refine WL.load Tryz.isAgg3 rfl (hcc6 0 _ rfl) rfl ?_
            refine WL.assign rfl rfl (WL.assign rfl rfl (WL.nil (WX.then_normal (?_))))
            obtain ⟨⟨r3a, r3c, r3x⟩, hr3⟩ : ∃ r, rs3[i]? = some r := ⟨_, List.getElem?_eq_getElem (by rw [hH3.len]; omega)⟩
            obtain ⟨r0, hr0, hao0, hcap0, hlen0, hxs0⟩ := hH3.back hr3
            obtain ⟨gr, hgr, hrl⟩ := hreal i r0 hr0 (fun h => by omega)
            have hgr3 : r3a = some ⟨gr, 0, none⟩ := by rw [← hgr]; exact hao0
            subst hgr3
            have hx3 : r3x.length = n := by rw [← hrl]; exact hlen0
            obtain ⟨u, hu⟩ : ∃ u, xo[b]? = some u := ⟨_, List.getElem?_eq_getElem (by omega)⟩
            obtain ⟨bx, ox, hbx⟩ := hXr.place hu
            obtain ⟨⟨hg1, hg2⟩, hrow⟩ := hO.at hr3 rfl
            have hOo := hO.outer.rsl
            have hk6 := Chg.refl (fun x => x = gr) w6
            have hO6 := hO
            have hL6 := hL
            have hw6 := hw
            refine WC.draw (fun x => x = gr) [0, 1, 2, 3, 4, 5, 6, 7, 8, 9] [10] mixed rfl rfl (fun wd_1 kd_1 zd_1 => ?_)
            have zs_kd_1 := kd_1.size
            replace hXr := hXr.pure kd_1
            replace hMs := hMs.pure kd_1
            replace hNs := hNs.pure kd_1
            replace hPs := hPs.pure kd_1
            replace hF := hF.pure kd_1
            replace hOo := hOo.pure kd_1
            replace hrow := hrow.pure kd_1
            replace hk6 := hk6.pure kd_1
            apply DQ.step (E' := [(1, _)])
            case ho => rfl
            case hs => exact ⟨rfl, trivial⟩
            case hk => rfl
            case h1 =>
              intro wq_3 kq_3
              refine WL.move rfl rfl (?_)
              refine WL.nil ?_
              exact WX.one ⟨rfl, by exact Chg.refl _ _⟩
            apply DQ.step (E' := [(25, _)])
            case ho => rfl
            case hs => exact ⟨rfl, trivial⟩
            case hk => rfl
            case h1 =>
              intro wq_4 kq_4
              refine WL.move rfl rfl (?_)
              refine WL.nil ?_
              exact WX.one ⟨rfl, by exact Chg.refl _ _⟩
            apply DQ.step (E' := [(125, _), (126, _)])
            case ho => rfl
            case hs => exact ⟨rfl, rfl, trivial⟩
            case hk => rfl
            case h1 =>
              intro wq_5 kq_5
              have zs_kq_5 := kq_5.size
              replace hXr := hXr.chg kq_5 (by intro b h1 h2 h3; have h4 : _ = _ := h3; (try dsimp only at h2); exfalso; omega)
              replace hMs := hMs.chg kq_5 (by intro b h1 h2 h3; have h4 : _ = _ := h3; (try dsimp only at h2); exfalso; omega)
              replace hNs := hNs.chg kq_5 (by intro b h1 h2 h3; have h4 : _ = _ := h3; (try dsimp only at h2); exfalso; omega)
              replace hPs := hPs.chg kq_5 (by intro b h1 h2 h3; have h4 : _ = _ := h3; (try dsimp only at h2); exfalso; omega)
              replace hF := hF.chg kq_5 (by intro h1; have h2 : _ = _ := h1; exfalso; omega)
              replace hOo := hOo.chg kq_5 (by intro b h1 h2 h3; have h4 : _ = _ := h3; (try dsimp only at h2); exfalso; omega)
              refine WL.indexC (e := erow) hOo Tryz.underlying87 Tryz.sizeOf26 (by show some (Value.slice _ rs.length rs.length) = some (Value.slice _ rs3.length rs3.length); rw [hH3.len]) rfl ⟨hr3, rfl⟩ rfl ?_
              refine WL.nil ?_
              exact WX.one ⟨rfl, by exact Chg.refl _ _⟩
            apply DQ.step (E' := [(127, _)])
            case ho => rfl
            case hs => exact ⟨rfl, trivial⟩
            case hk => rfl
            case h1 =>
              intro wq_6 kq_6
              have zs_kq_6 := kq_6.size
              replace hXr := hXr.chg kq_6 (by intro b h1 h2 h3; have h4 : _ = _ := h3; (try dsimp only at h2); exfalso; omega)
              replace hMs := hMs.chg kq_6 (by intro b h1 h2 h3; have h4 : _ = _ := h3; (try dsimp only at h2); exfalso; omega)
              replace hNs := hNs.chg kq_6 (by intro b h1 h2 h3; have h4 : _ = _ := h3; (try dsimp only at h2); exfalso; omega)
              replace hPs := hPs.chg kq_6 (by intro b h1 h2 h3; have h4 : _ = _ := h3; (try dsimp only at h2); exfalso; omega)
              replace hF := hF.chg kq_6 (by intro h1; have h2 : _ = _ := h1; exfalso; omega)
              replace hOo := hOo.chg kq_6 (by intro b h1 h2 h3; have h4 : _ = _ := h3; (try dsimp only at h2); exfalso; omega)
              refine WL.load Tryz.isAgg26 rfl ((hOo.cellsAt hr3) 0 _ rfl) rfl ?_
              refine WL.nil ?_
              exact WX.one ⟨rfl, by exact Chg.refl _ _⟩
            apply DQ.step (E' := [(18, _)])
            case ho => rfl
            case hs => exact ⟨rfl, trivial⟩
            case hk => rfl
            case h1 =>
              intro wq_7 kq_7
              refine WL.move rfl rfl (?_)
              refine WL.nil ?_
              exact WX.one ⟨rfl, by exact Chg.refl _ _⟩
            apply DQ.step (E' := [(22, _)])
            case ho => rfl
            case hs => exact ⟨rfl, trivial⟩
            case hk => rfl
            case h1 =>
              intro wq_8 kq_8
              refine WL.move rfl rfl (?_)
              refine WL.nil ?_
              exact WX.one ⟨rfl, by exact Chg.refl _ _⟩
            apply DQ.step (E' := [(24, _)])
            case ho => rfl
            case hs => exact ⟨rfl, trivial⟩
            case hk => rfl
            case h1 =>
              intro wq_9 kq_9
              refine WL.move rfl rfl (?_)
              refine WL.nil ?_
              exact WX.one ⟨rfl, by exact Chg.refl _ _⟩
            apply DQ.step (E' := [(130, _), (131, _)])
            case ho => rfl
            case hs => exact ⟨rfl, rfl, trivial⟩
            case hk => rfl
            case h1 =>
              intro wq_10 kq_10
              have zs_kq_10 := kq_10.size
              replace hXr := hXr.chg kq_10 (by intro b h1 h2 h3; have h4 : _ = _ := h3; (try dsimp only at h2); exfalso; omega)
              replace hMs := hMs.chg kq_10 (by intro b h1 h2 h3; have h4 : _ = _ := h3; (try dsimp only at h2); exfalso; omega)
              replace hNs := hNs.chg kq_10 (by intro b h1 h2 h3; have h4 : _ = _ := h3; (try dsimp only at h2); exfalso; omega)
              replace hPs := hPs.chg kq_10 (by intro b h1 h2 h3; have h4 : _ = _ := h3; (try dsimp only at h2); exfalso; omega)
              replace hF := hF.chg kq_10 (by intro h1; have h2 : _ = _ := h1; exfalso; omega)
              replace hOo := hOo.chg kq_10 (by intro b h1 h2 h3; have h4 : _ = _ := h3; (try dsimp only at h2); exfalso; omega)
              have hXq := hXr
              rw [hbx] at hXq
              refine WL.indexC (e := eb) hXq Tryz.underlying26 Tryz.sizeOf5 (by show some (Value.slice ax _ _) = _; rw [hbx]) rfl ⟨hu, rfl⟩ rfl ?_
              refine WL.nil ?_
              exact WX.one ⟨rfl, by exact Chg.refl _ _⟩
            apply DQ.step (E' := [(132, _)])
            case ho => rfl
            case hs => exact ⟨rfl, trivial⟩
            case hk => rfl
            case h1 =>
              intro wq_11 kq_11
              have zs_kq_11 := kq_11.size
              replace hXr := hXr.chg kq_11 (by intro b h1 h2 h3; have h4 : _ = _ := h3; (try dsimp only at h2); exfalso; omega)
              replace hMs := hMs.chg kq_11 (by intro b h1 h2 h3; have h4 : _ = _ := h3; (try dsimp only at h2); exfalso; omega)
              replace hNs := hNs.chg kq_11 (by intro b h1 h2 h3; have h4 : _ = _ := h3; (try dsimp only at h2); exfalso; omega)
              replace hPs := hPs.chg kq_11 (by intro b h1 h2 h3; have h4 : _ = _ := h3; (try dsimp only at h2); exfalso; omega)
              replace hF := hF.chg kq_11 (by intro h1; have h2 : _ = _ := h1; exfalso; omega)
              replace hOo := hOo.chg kq_11 (by intro b h1 h2 h3; have h4 : _ = _ := h3; (try dsimp only at h2); exfalso; omega)
              have hXq := hXr
              rw [hbx] at hXq
              refine WL.load Tryz.isAgg5 rfl ((hXq.cellsAt hu) 0 _ rfl) rfl ?_
              refine WL.nil ?_
              exact WX.one ⟨rfl, by exact Chg.refl _ _⟩
            apply DQ.step (E' := [(128, _), (129, _)])
            case ho => rfl
            case hs => exact ⟨rfl, rfl, trivial⟩
            case hk => rfl
            case h1 =>
              intro wq_12 kq_12
              have zs_kq_12 := kq_12.size
              replace hXr := hXr.chg kq_12 (by intro b h1 h2 h3; have h4 : _ = _ := h3; (try dsimp only at h2); exfalso; omega)
              replace hMs := hMs.chg kq_12 (by intro b h1 h2 h3; have h4 : _ = _ := h3; (try dsimp only at h2); exfalso; omega)
              replace hNs := hNs.chg kq_12 (by intro b h1 h2 h3; have h4 : _ = _ := h3; (try dsimp only at h2); exfalso; omega)
              replace hPs := hPs.chg kq_12 (by intro b h1 h2 h3; have h4 : _ = _ := h3; (try dsimp only at h2); exfalso; omega)
              replace hF := hF.chg kq_12 (by intro h1; have h2 : _ = _ := h1; exfalso; omega)
              replace hOo := hOo.chg kq_12 (by intro b h1 h2 h3; have h4 : _ = _ := h3; (try dsimp only at h2); exfalso; omega)
              refine WL.index (sz := 1) (j := t) Tryz.underlying26 Tryz.sizeOf5 rfl rfl rfl (by show t < r3x.length; omega) rfl ?_
              refine WL.nil ?_
              exact WX.one ⟨rfl, by exact Chg.refl _ _⟩
            refine DQ.done (fun hd_2 => ?_)
            refine DL.step [(134, _), (133, _)] rfl ⟨rfl, rfl, trivial⟩ rfl (fun wq_13 kq_13 => ?_)
            have zs_kq_13 := kq_13.size
            replace hXr := hXr.pure kq_13
            replace hMs := hMs.pure kq_13
            replace hNs := hNs.pure kq_13
            replace hPs := hPs.pure kq_13
            replace hF := hF.pure kq_13
            replace hOo := hOo.pure kq_13
            replace hrow := hrow.pure kq_13
            replace hk6 := hk6.pure kq_13
            replace hd_2 := hd_2.pure kq_13
            refine WL.storeRow (z := u) (t) Tryz.sizeOf5 hrow rfl rfl rfl (by simp; done) (by omega) rfl ?_
            intro w_14 zs_14 nr_14 k_14
            have zs_k_14 := k_14.size
            replace hXr := hXr.chg k_14 (by intro b h1 h2 h3; have h4 : _ = _ := h3; (try dsimp only at h2); exfalso; omega)
            replace hMs := hMs.chg k_14 (by intro b h1 h2 h3; have h4 : _ = _ := h3; (try dsimp only at h2); exfalso; omega)
            replace hNs := hNs.chg k_14 (by intro b h1 h2 h3; have h4 : _ = _ := h3; (try dsimp only at h2); exfalso; omega)
            replace hPs := hPs.chg k_14 (by intro b h1 h2 h3; have h4 : _ = _ := h3; (try dsimp only at h2); exfalso; omega)
            replace hF := hF.chg k_14 (by intro h1; have h2 : _ = _ := h1; exfalso; omega)
            replace hOo := hOo.chg k_14 (by intro b h1 h2 h3; have h4 : _ = _ := h3; (try dsimp only at h2); exfalso; omega)
            replace hk6 := hk6.chg k_14 (by intro x h1 h2; exact h2)
            replace hd_2 := hd_2.chg k_14 (by intro x h1 h2; exact h2)
            replace hrow := nr_14
            refine WL.nil ?_
            refine WX.one0 (v := undef) ⟨hd_2, ?_⟩
            refine DL.done (fun we_15 ke_15 => ?_)
            have zs_ke_15 := ke_15.size
            replace hXr := hXr.pure ke_15
            replace hMs := hMs.pure ke_15
            replace hNs := hNs.pure ke_15
            replace hPs := hPs.pure ke_15
            replace hF := hF.pure ke_15
            replace hOo := hOo.pure ke_15
            replace hrow := hrow.pure ke_15
            replace hk6 := hk6.pure ke_15
            replace hd_2 := hd_2.pure ke_15
            refine WX.block_normal (WX.then_normal (WC.region (WL.add64 rfl rfl (by omega) rfl (WL.move rfl rfl (WL.nil (?_))))))
            have hO7 := hO6.upd hr3 (ys := r3x.set t u) (by rw [List.length_set]) hk6 hrow
            have hL7 := hL6.chg hk6 (fun x _ h1 h2 => h1.2.2 r0 (List.mem_of_getElem? hr0) (by have h3 : x = gr := h2; rw [h3]; exact hgr))
            have hw7 := hw6.chg hk6 (fun x _ h1 => by have h3 : x = gr := h1; show go ≤ x; omega)
            have hH7 := hH3.set hiL hr3 (fun q _ => by omega) (show t < r3x.length by omega) u
            have hV7 : ∀ (b' i' : Nat), b' < b + 1 → (lostL k bad)[b']? = some i' → fn (mx (rs3.set i ⟨some ⟨gr, 0, none⟩, r3c, r3x.set t u⟩)) i' t = xo.getD b' 0 := by
              intro b' i' h1 h2
              rw [mx_set, fn_setr2 (mx_at hr3) u (show t < r3x.length by omega)]
              rcases Nat.lt_or_ge b' b with h3 | h3
              ·
                have := sorted_lt (lost_sorted k bad) h2 hi h3
                rw [if_neg (by omega)]
                exact hV b' i' h3 h2
              ·
                have h4 : b' = b := by omega
                subst h4
                rw [hi] at h2
                injection h2 with h2
                rw [if_pos ⟨h2.symm, rfl⟩, List.getD_eq_getElem?_getD, hu]
                rfl
            exact WX.loop_next (b + 1, rs3.set i ⟨some ⟨gr, 0, none⟩, r3c, r3x.set t u⟩) ⟨rfl, rfl, rfl, rfl, rfl, rfl, rfl, rfl, rfl, rfl, rfl, rfl, rfl, rfl, trivial⟩ ⟨by show b + 1 ≤ _; omega, hH7, hV7, by omega, hXr, hMs, hNs, hPs, hF, hO7, hL7, hw7⟩ (by show (lostL k bad).length - (b + 1) < (lostL k bad).length - b; omega)
          ·
            refine WL.nil (WX.then_normal (WC.seq (WC.cond_false rfl (WC.exit (WX.then_exit (WX.then_exit (WX.block_here (?_))))))))
            refine WX.block_normal (WX.then_normal (WC.region (WL.add64 rfl rfl (by omega) rfl (WL.move rfl rfl (WL.nil (?_))))))
            have hbl : b = (lostL k bad).length := by omega
            have hE : ∀ q ∈ fromL k bad, sumF k (fun j => mul (wtq q j) (fn (mx rs3) j t)) = fn (mx rs3) (k + q) t := by
              intro q hq
              obtain ⟨a', ha'⟩ := List.getElem?_of_mem hq
              have hqL : k + q ∉ lostL k bad := fun h => by have := (lost_mem.1 h).1; omega
              refine heal_eq (bad := bad) (y0 := fun j => fn (mx rs) j t) rfl (fun j hj => hH3.same hj t) (fun j hj => ?_) ?_
              ·
                obtain ⟨r, hr⟩ : ∃ r, rs[j]? = some r := ⟨_, List.getElem?_eq_getElem (by have := (lost_mem.1 hj).1; omega)⟩
                show fn (mx rs) j t = 0
                rw [fn_at1 (mx_at hr), hz j r hr hj, List.getD_eq_getElem?_getD, List.getElem?_replicate]
                split <;> rfl
              ·
                rw [hH3.same hqL t]
                have h1 := hxe a' q ha'
                rw [List.getD_eq_getElem?_getD (l := (fromL k bad).map rf), List.getElem?_map, ha', hrf] at h1
                refine Eq.trans (sumF_cong (fun b' hb' => ?_)) h1
                obtain ⟨i', hi'⟩ : ∃ i', (lostL k bad)[b']? = some i' := ⟨_, List.getElem?_eq_getElem hb'⟩
                have h2 := hV b' i' (by omega) hi'
                have h3 : (lostL k bad).getD b' 0 = i' := by rw [List.getD_eq_getElem?_getD, hi']; rfl
                rw [h3, h2]
            exact WX.loop_next (t + 1, rs3) ⟨rfl, rfl, rfl, rfl, rfl, rfl, rfl, rfl, rfl, trivial⟩ ⟨by show t + 1 ≤ n; omega, hH3.step hE, hNw, hMs, hNs, hPs, hF, hO, hL, hw⟩ (by show n - (t + 1) < n - t; omega)
      ·
        refine WL.nil (WX.then_normal (WC.seq (WC.cond_false rfl (WC.exit (WX.then_exit (WX.then_exit (WX.block_here (?_))))))))
        refine WX.then_normal (WC.seq (WC.region (WL.assign rfl rfl (WL.nil (WX.then_normal (WC.ret (?_)))))))
        refine WX.ret1 (.inl rfl) Tryz.results92 rfl ?_
        have htn : t = n := by omega
        subst htn
        exact ⟨_, rfl, rfl, ⟨rs2, hH, hO⟩, hF, hw⟩
end Go.Proofs.YtggecdldnpildaaGreat
namespace Go.HL
open Go.RowKit
section
variable {w w' : World} {T U : TypeId} {go N : Nat} {rs : List Rw} {M : Nat → Prop}
theorem OB.chg2 (h : OB w T U go N rs) (k : Chg M w w') (h0 : ¬ M go) (hd : ∀ r ∈ rs, ∀ g, r.ao = some ⟨g, 0, none⟩ → ¬ M g) : OB w' T U go N rs :=
  ⟨h.outer.chg k (fun b hb e m => h0 (by have h2 : b = go := e; rw [← h2]; exact m)), fun i r hr => by
    rcases h.inner i r hr with h1 | ⟨g, h1, h2, h3⟩
    · exact .inl h1
    · exact .inr ⟨g, h1, h2, h3.chg k (fun b hb e m => hd r (List.mem_of_getElem? hr) g h1 (by have h4 : b = g := e; rw [← h4]; exact m))⟩, h.apart, h.lo⟩
theorem OB.put2 (h : OB w T U go N rs) {i g cr : Nat} {xs : List UInt8} (hi : i < rs.length) (hg : go < g ∧ g < N) (hnew : ∀ r ∈ rs, r.ao ≠ some ⟨g, 0, none⟩) (hr : Row (fun b => b = g) w U eb (some ⟨g, 0, none⟩) cr xs)
    (k : Chg (fun x => x = go) w w') (ho : Row (fun x => x = go) w' T erow (some ⟨go, 0, none⟩) rs.length (rs.set i ⟨some ⟨g, 0, none⟩, cr, xs⟩)) : OB w' T U go N (rs.set i ⟨some ⟨g, 0, none⟩, cr, xs⟩) := by
  have hlo := h.lo
  refine ⟨by rw [List.length_set]; exact ho, fun j r hj => ?_, fun a b r s g' ha hb hra hsb => ?_, hlo⟩
  · rw [List.getElem?_set] at hj
    split at hj
    · injection hj with hj
      subst hj
      exact .inr ⟨g, rfl, hg, hr.chg k (fun b _ e m => by have h2 : b = g := e; have h3 : b = go := m; omega)⟩
    · rcases h.inner j r hj with h1 | ⟨g', h1, h2, h3⟩
      · exact .inl h1
      · exact .inr ⟨g', h1, h2, h3.chg k (fun b _ e m => by have h2 : b = g' := e; have h3 : b = go := m; omega)⟩
  · rw [List.getElem?_set] at ha hb
    split at ha <;> split at hb
    · omega
    · injection ha with ha
      subst ha
      injection hra with hra
      injection hra with hra
      exact absurd (by rw [hsb, ← hra]) (hnew s (List.mem_of_getElem? hb))
    · injection hb with hb
      subst hb
      injection hsb with hsb
      injection hsb with hsb
      exact absurd (by rw [hra, ← hsb]) (hnew r (List.mem_of_getElem? ha))
    · exact h.apart a b r s g' ha hb hra hsb
end
/-- what stands in the first i places, the others nil -/
structure RI (cols : List (List UInt8)) (bad : List Int) (k n i : Nat) (rs' : List Rw) : Prop where
  len : rs'.length = k + 3
  nil : ∀ (j : Nat) (r : Rw), rs'[j]? = some r → (i ≤ j ∨ k ≤ j ∧ (j : Int) ∈ bad) → r = ⟨none, 0, []⟩
  real : ∀ (j : Nat) (r : Rw), rs'[j]? = some r → j < i → ¬ (k ≤ j ∧ (j : Int) ∈ bad) → ∃ g, r.ao = some ⟨g, 0, none⟩ ∧ r.xs.length = n
  keep : ∀ (j : Nat) (r : Rw), rs'[j]? = some r → j < i → (j : Int) ∉ bad → cols[j]? = some r.xs
  zero : ∀ (j : Nat) (r : Rw), rs'[j]? = some r → j < i → j < k → (j : Int) ∈ bad → r.xs = List.replicate n 0
section
variable {cols : List (List UInt8)} {bad : List Int} {k n i : Nat} {rs' : List Rw}
theorem RI.start (cols : List (List UInt8)) (bad : List Int) (k n : Nat) : RI cols bad k n 0 (List.replicate (k + 3) ⟨none, 0, []⟩) :=
  ⟨List.length_replicate, (fun j r hr _ => by
    rw [List.getElem?_replicate] at hr
    split at hr
    · injection hr with hr; exact hr.symm
    · cases hr), fun j r _ h => absurd h (Nat.not_lt_zero j), fun j r _ h => absurd h (Nat.not_lt_zero j), fun j r _ h => absurd h (Nat.not_lt_zero j)⟩
theorem RI.skip (h : RI cols bad k n i rs') (hi : k ≤ i ∧ (i : Int) ∈ bad) : RI cols bad k n (i + 1) rs' :=
  ⟨h.len, fun j r hr hj => by
    rcases hj with hj | hj
    · exact h.nil j r hr (.inl (by omega))
    · exact h.nil j r hr (.inr hj), fun j r hr hj hn => by
    rcases Nat.lt_or_ge j i with h1 | h1
    · exact h.real j r hr h1 hn
    · have e : j = i := by omega
      subst e
      exact absurd hi hn, fun j r hr hj hn => by
    rcases Nat.lt_or_ge j i with h1 | h1
    · exact h.keep j r hr h1 hn
    · have e : j = i := by omega
      subst e
      exact absurd hi.2 hn, fun j r hr hj hk hb => h.zero j r hr (by omega) hk hb⟩
theorem RI.put (h : RI cols bad k n i rs') (hi : ¬ (k ≤ i ∧ (i : Int) ∈ bad)) (hik : i < k + 3) {g cr : Nat} {xs : List UInt8} (hl : xs.length = n) (hkeep : (i : Int) ∉ bad → cols[i]? = some xs) (hzero : (i : Int) ∈ bad → xs = List.replicate n 0) : RI cols bad k n (i + 1) (rs'.set i ⟨some ⟨g, 0, none⟩, cr, xs⟩) := by
  have hil : i < rs'.length := by rw [h.len]; exact hik
  have hat : ∀ (j : Nat) (r : Rw), (rs'.set i ⟨some ⟨g, 0, none⟩, cr, xs⟩)[j]? = some r → (j = i ∧ r = ⟨some ⟨g, 0, none⟩, cr, xs⟩) ∨ (j ≠ i ∧ rs'[j]? = some r) := fun j r hr => by
    by_cases e : i = j
    · subst e
      rw [List.getElem?_set_self hil] at hr
      injection hr with hr
      exact .inl ⟨rfl, hr.symm⟩
    · rw [List.getElem?_set_ne e] at hr
      exact .inr ⟨fun e2 => e e2.symm, hr⟩
  refine ⟨by rw [List.length_set]; exact h.len, fun j r hr hj => ?_, fun j r hr hj hn => ?_, fun j r hr hj hn => ?_, fun j r hr hj hk hb => ?_⟩
  · rcases hat j r hr with ⟨e, _⟩ | ⟨e, h1⟩
    · subst e
      rcases hj with hj | hj
      · omega
      · exact absurd hj hi
    · rcases hj with hj | hj
      · exact h.nil j r h1 (.inl (by omega))
      · exact h.nil j r h1 (.inr hj)
  · rcases hat j r hr with ⟨e, e2⟩ | ⟨e, h1⟩
    · subst e2
      exact ⟨g, rfl, hl⟩
    · exact h.real j r h1 (by omega) hn
  · rcases hat j r hr with ⟨e, e2⟩ | ⟨e, h1⟩
    · subst e2
      subst e
      exact hkeep hn
    · exact h.keep j r h1 (by omega) hn
  · rcases hat j r hr with ⟨e, e2⟩ | ⟨e, h1⟩
    · subst e2
      subst e
      exact hzero hb
    · exact h.zero j r h1 (by omega) hk hb
end
theorem lost_next (i : Nat) (bad : List Int) : lostL (i + 1) bad = lostL i bad ++ if (i : Int) ∈ bad then [i] else [] := by
  rw [lostL, List.range_succ, List.filter_append, lostL, List.filter_cons]
  congr 1
  by_cases h : (i : Int) ∈ bad
  · rw [if_pos h, if_pos (by simpa using h)]; rfl
  · rw [if_neg h, if_neg (by simpa using h)]; rfl
end Go.HL
namespace Go.Proofs.YtggecdldnpildaaGreat
open Go.RowKit Go.HL
set_option maxRecDepth 100000

theorem jclone_calls {S : Nat → Prop} {w : World} {ao : Option Addr} {c : Nat} {xs : List UInt8} (h : RSl S w eb ao c xs) (hx : 1 ≤ xs.length) (hl : xs.length ≤ 100000000) :
    Calls Tryz.prog 63 [.slice ao xs.length c].toArray w (Ret fun v w' => (∃ g c2, v = .slice (some ⟨g, 0, none⟩) xs.length c2 ∧ Row (fun b => b = g) w' 5 eb (some ⟨g, 0, none⟩) c2 xs ∧ w.heap.size ≤ g) ∧ Chg Nob w w') := by
  have hw := Chg.refl Nob w
  obtain ⟨x0, hx0⟩ : ∃ x, xs[0]? = some x := ⟨_, List.getElem?_eq_getElem (by omega)⟩
  obtain ⟨b, o, rfl⟩ := h.place hx0
  replace h := h.old
  refine Calls.of_WC Tryz.func63 rfl Tryz.ntmps63 (by simp) ?_
  refine WC.seq (WC.region (WL.assign rfl rfl (WL.nil (WX.then_normal (WC.seq (WC.seq (WC.region (?_))))))))
  refine WL.move rfl rfl (?_)
  refine WL.isNil Tryz.underlying26 rfl rfl rfl ?_
  refine WL.nil (WX.then_normal (WC.cond_false rfl (WC.skip (WX.then_normal (WC.seq (WC.region (?_)))))))
  refine WL.build (e := eb) [] Tryz.underlying26 Tryz.sizeOf5 Tryz.zeroValue5 rfl rfl rfl (by simp [Value.cells]; done) (by decide) rfl ?_
  intro a_b0 w_b0 b0 l_b0 z_b0 k_b0
  have zs_k_b0 := k_b0.size
  replace h := h.pure k_b0
  replace hw := hw.pure k_b0
  refine WL.move rfl rfl (?_)
  refine WL.append0 (e := eb) info_5 rfl Tryz.underlying26 rfl rfl b0 (h.src Tryz.underlying26) hx (by constructor <;> omega) rfl ?_
  intro g2 c2 w2 hb2 k2 eg2 z2
  have zs_k2 := k2.size
  replace h := h.pure k2
  replace hw := hw.pure k2
  refine WL.assign rfl rfl (WL.nil (WX.then_normal (WC.ret (?_))))
  refine WX.ret1 (.inl rfl) Tryz.results63 rfl ?_
  exact ⟨_, rfl, ⟨g2, c2, rfl, hb2, by have := hw.size; omega⟩, hw⟩
end Go.Proofs.YtggecdldnpildaaGreat
namespace Go.Proofs.YtggecdldnpildaaGreat
open Go.RowKit Go.HL
set_option maxRecDepth 100000
/-- what Rebuild has at its end is what it must answer -/
theorem rb_fin2 {cols : List (List UInt8)} {bad : List Int} {k n : Nat} {rs1 rs3 rs4 : List Rw} (hreal : ∀ (j : Nat) (r : Rw), rs1[j]? = some r → j < k + 3 → ¬ (k ≤ j ∧ (j : Int) ∈ bad) → r.xs.length = n) (hkeep : ∀ (j : Nat) (r : Rw), rs1[j]? = some r → j < k + 3 → (j : Int) ∉ bad → cols[j]? = some r.xs) (hH : HealI rs1 rs3 k (lostL k bad) (fromL k bad) n) (hlen : rs4.length = k + 3) (hlow : ∀ j, j < k → rs4[j]? = rs3[j]?) (hpar : ∀ q, q < 3 → ((k + q : Nat) : Int) ∉ bad → rs4[k + q]? = rs3[k + q]?)
    (hbad : ∀ q, q < 3 → ((k + q : Nat) : Int) ∈ bad → ∃ r, rs4[k + q]? = some r ∧ r.xs = prow (wtq q) ((xss rs4).take k) n k) : RB cols bad k n (xss rs4) := by
  have hlow2 : ∀ (j : Nat) (r : Rw), j < k → rs4[j]? = some r → r.xs.length = n := fun j r hj hr => by
    rw [hlow j hj] at hr
    obtain ⟨r1, hr1, _, _, h5, _⟩ := hH.back hr
    have h6 := hreal j r1 hr1 (by omega) (fun h => by omega)
    rw [h5, h6]
  have htl : ((xss rs4).take k).length = k := by rw [List.length_take, xss_len]; omega
  have hta : ∀ d ∈ (xss rs4).take k, d.length = n := fun d hd => by
    obtain ⟨j, hj⟩ := List.getElem?_of_mem hd
    have hjk : j < k := by have := (List.getElem?_eq_some_iff.1 hj).1; omega
    rw [List.getElem?_take_of_lt hjk] at hj
    obtain ⟨r, hr⟩ : ∃ r, rs4[j]? = some r := ⟨_, List.getElem?_eq_getElem (by omega)⟩
    rw [xss_at hr] at hj
    injection hj with hj
    rw [← hj]
    exact hlow2 j r hjk hr
  have hgood : ∀ (q : Nat) (r : Rw), q < 3 → ((k + q : Nat) : Int) ∉ bad → rs4[k + q]? = some r → r.xs.length = n := fun q r hq hb hr => by
    rw [hpar q hq hb] at hr
    obtain ⟨r1, hr1, _, _, h5, _⟩ := hH.back hr
    have h6 := hreal (k + q) r1 hr1 (by omega) (fun h => hb h.2)
    rw [h5, h6]
  refine ⟨by rw [xss_len]; exact hlen, fun x hx => ?_, fun j hj hb => ?_, fun q hq hc => ?_⟩
  · obtain ⟨j, hj⟩ := List.getElem?_of_mem hx
    have hjl : j < k + 3 := by have := (List.getElem?_eq_some_iff.1 hj).1; rw [xss_len] at this; omega
    obtain ⟨r, hr⟩ : ∃ r, rs4[j]? = some r := ⟨_, List.getElem?_eq_getElem (by omega)⟩
    rw [xss_at hr] at hj
    injection hj with hj
    rw [← hj]
    rcases Nat.lt_or_ge j k with h1 | h1
    · exact hlow2 j r h1 hr
    · have e : j = k + (j - k) := by omega
      by_cases hb : (j : Int) ∈ bad
      · obtain ⟨r', h2, h3⟩ := hbad (j - k) (by omega) (by rw [← e]; exact hb)
        rw [← e, hr] at h2
        injection h2 with h2
        rw [h2, h3]
        exact prow_len hta (by omega)
      · exact hgood (j - k) r (by omega) (by rw [← e]; exact hb) (by rw [← e]; exact hr)
  · obtain ⟨r, hr⟩ : ∃ r, rs4[j]? = some r := ⟨_, List.getElem?_eq_getElem (by omega)⟩
    have h3 : rs3[j]? = some r := by
      rcases Nat.lt_or_ge j k with h1 | h1
      · rw [← hlow j h1]; exact hr
      · have e : j = k + (j - k) := by omega
        have h2 := hpar (j - k) (by omega) (by rw [← e]; exact hb)
        rw [← e] at h2
        rw [← h2]; exact hr
    obtain ⟨r1, hr1, _, _, _, h5⟩ := hH.back h3
    rw [xss_at hr, h5 (fun h => hb (lost_mem.1 h).2), hkeep j r1 hr1 hj hb]
  · by_cases hb : ((k + q : Nat) : Int) ∈ bad
    · obtain ⟨r, h2, h3⟩ := hbad q hq hb
      rw [xss_at h2, h3]
    · have hf : q ∈ fromL k bad := hc.resolve_left hb
      obtain ⟨r, hr⟩ : ∃ r, rs4[k + q]? = some r := ⟨_, List.getElem?_eq_getElem (by omega)⟩
      rw [xss_at hr]
      congr 1
      have hrl := hgood q r hq hb hr
      have hr3 : rs3[k + q]? = some r := by rw [← hpar q hq hb]; exact hr
      refine getD_ext (by rw [hrl, prow_len hta (by omega)]) (fun t ht => ?_)
      have h1 := hH.eqs t (by omega) q hf
      rw [fn_at1 (mx_at hr3)] at h1
      rw [← h1, List.getD_eq_getElem?_getD, prow_at hta (by omega) (by omega), px_sumF]
      refine sumF_cong (fun j hj => ?_)
      congr 1
      exact fn_opt (by rw [List.getElem?_take_of_lt hj, mx, List.getElem?_map, xss, List.getElem?_map, hlow j hj]) t
theorem rb_fin {cols : List (List UInt8)} {bad : List Int} {k n : Nat} {rs1 rs3 rs4 : List Rw} (hI : RI cols bad k n (k + 3) rs1) (hH : HealI rs1 rs3 k (lostL k bad) (fromL k bad) n) (hlen : rs4.length = k + 3) (hlow : ∀ j, j < k → rs4[j]? = rs3[j]?) (hpar : ∀ q, q < 3 → ((k + q : Nat) : Int) ∉ bad → rs4[k + q]? = rs3[k + q]?)
    (hbad : ∀ q, q < 3 → ((k + q : Nat) : Int) ∈ bad → ∃ r, rs4[k + q]? = some r ∧ r.xs = prow (wtq q) ((xss rs4).take k) n k) : RB cols bad k n (xss rs4) :=
  rb_fin2 (fun j r h1 h2 h3 => (hI.real j r h1 h2 h3).choose_spec.2) (fun j r h1 h2 h3 => hI.keep j r h1 h2 h3) hH hlen hlow hpar hbad
/-- the parities that are put in their places -/
structure FI (rs3 pw : List Rw) (bad : List Int) (k q : Nat) (rs4 : List Rw) : Prop where
  len : rs4.length = k + 3
  low : ∀ j, j < k → rs4[j]? = rs3[j]?
  par : ∀ q', q' < 3 → rs4[k + q']? = if q' < q ∧ ((k + q' : Nat) : Int) ∈ bad then pw[q']? else rs3[k + q']?
theorem FI.start {rs3 : List Rw} (pw : List Rw) (bad : List Int) {k : Nat} (h : rs3.length = k + 3) : FI rs3 pw bad k 0 rs3 := ⟨h, fun _ _ => rfl, fun q' _ => by rw [if_neg (by omega)]⟩
theorem FI.skip {rs3 pw rs4 : List Rw} {bad : List Int} {k q : Nat} (h : FI rs3 pw bad k q rs4) (hb : ((k + q : Nat) : Int) ∉ bad) : FI rs3 pw bad k (q + 1) rs4 := ⟨h.len, h.low, fun q' hq => by
  rw [h.par q' hq]
  by_cases e : q' = q
  · subst e
    rw [if_neg (fun h => hb h.2), if_neg (fun h => hb h.2)]
  · by_cases e2 : q' < q ∧ ((k + q' : Nat) : Int) ∈ bad
    · rw [if_pos e2, if_pos ⟨by omega, e2.2⟩]
    · rw [if_neg e2, if_neg (fun h => e2 ⟨by omega, h.2⟩)]⟩
theorem FI.put {rs3 pw rs4 : List Rw} {bad : List Int} {k q : Nat} {z : Rw} (h : FI rs3 pw bad k q rs4) (hb : ((k + q : Nat) : Int) ∈ bad) (hq : q < 3) (hz : pw[q]? = some z) : FI rs3 pw bad k (q + 1) (rs4.set (k + q) z) := ⟨by rw [List.length_set]; exact h.len, fun j hj => by rw [List.getElem?_set_ne (by omega)]; exact h.low j hj, fun q' hq' => by
  by_cases e : q' = q
  · subst e
    rw [List.getElem?_set_self (by rw [h.len]; omega), if_pos ⟨by omega, hb⟩, hz]
  · rw [List.getElem?_set_ne (by omega), h.par q' hq']
    by_cases e2 : q' < q ∧ ((k + q' : Nat) : Int) ∈ bad
    · rw [if_pos e2, if_pos ⟨by omega, e2.2⟩]
    · rw [if_neg e2, if_neg (fun h => e2 ⟨by omega, h.2⟩)]⟩
end Go.Proofs.YtggecdldnpildaaGreat
namespace Go.Proofs.YtggecdldnpildaaGreat
open Go.RowKit Go.HL
set_option maxRecDepth 100000

set_option maxHeartbeats 8000000 in
theorem rebuild_good {S S2 : Nat → Prop} {w : World} {ao ab : Option Addr} {c cb k n : Nat} {rs : List Rw} {bad : List Int} (hc : RS S w ao c rs) (hb : RSl S2 w ei ab cb bad) (hk : rs.length = k + 3) (hk1 : 1 ≤ k ∧ k ≤ 13) (he : errB (xss rs) bad = 0) (hb3 : bad.length ≤ 3) (hn : lenB (xss rs) bad = (n : Int)) (hev : EvenB (xss rs) bad n) :
    Calls Tryz.prog 74 [.slice ao rs.length c, .slice ab bad.length cb].toArray w (Ret fun v w' => (∃ go N ps, v = .tuple #[.slice (some ⟨go, 0, none⟩) (k + 3) (k + 3), vi 0] ∧ OB w' 26 5 go N ps ∧ w.heap.size ≤ go ∧ RB (xss rs) bad k n (xss ps)) ∧ Chg Nob w w') := by
  replace hc := hc.old
  replace hb := hb.old
  have hw := Chg.refl Nob w
  have hn1 := hev.1
  refine Calls.of_WC Tryz.func74 rfl Tryz.ntmps74 (by simp) ?_
  refine WC.seq (WC.region (WL.assign rfl rfl (WL.assign rfl rfl (WL.nil (WX.then_normal (WC.seq (WC.region (?_))))))))
  refine WL.move rfl rfl (WL.move rfl rfl (?_))
  refine WL.call eg_91 rfl rfl (right_calls hc hb (by omega) (by omega)) ?_
  rintro v w1 ⟨rfl, k1⟩
  rw [he, if_pos rfl, hn]
  have zs_k1 := k1.size
  replace hc := hc.pure k1
  replace hb := hb.pure k1
  replace hw := hw.pure k1
  refine WL.move rfl rfl (WL.extract rfl rfl rfl (WL.extract rfl rfl rfl (WL.assign rfl rfl (WL.assign rfl rfl (WL.nil (WX.then_normal (WC.seq (?_))))))))
  refine WC.seq (WC.region (WL.move rfl rfl (?_)))
  refine WL.neqF rfl rfl rfl (by rfl) ?_
  refine WL.nil (WX.then_normal (WC.cond_false rfl (WC.skip (WX.then_normal (WC.seq (WC.region (WL.move rfl rfl (?_))))))))
  refine WL.len Tryz.underlying87 rfl rfl (?_)
  refine WL.sub64 rfl rfl (by constructor <;> omega) rfl ?_
  rw [show ((rs.length : Int) - 3) = (k : Int) from by omega]
  refine WL.assign rfl rfl (WL.nil (WX.then_normal (WC.seq (WC.region (WL.move rfl rfl (WL.len Tryz.underlying87 rfl rfl (?_)))))))
  refine WL.make (e := erow) ⟨none, 0, []⟩ (k + 3) (k + 3) Tryz.underlying87 info_26 rfl rfl rfl ⟨by show (rs.length : Int) = _; omega, by show (rs.length : Int) = _; omega, Nat.le_refl _⟩ (by constructor <;> omega) rfl ?_
  intro go wq hq kq zq ego
  rw [List.length_replicate]
  have zs_kq := kq.size
  replace hc := hc.pure kq
  replace hb := hb.pure kq
  replace hw := hw.pure kq
  refine WL.assign rfl rfl (WL.nil (WX.then_normal (WC.seq (WC.region (WL.assign rfl rfl (WL.nil (WX.then_normal (?_))))))))
  refine WC.seq (WC.seq (WC.region (WL.move rfl rfl (WL.len Tryz.underlying87 rfl rfl (WL.move rfl rfl (WL.nil (WX.then_normal (?_))))))))
  refine WC.block (?_)
  have zw0 := hw.size
  have hgo : w.heap.size ≤ go := by omega
  have hO : OB wq 26 5 go wq.heap.size (List.replicate (k + 3) ⟨none, 0, []⟩) := ⟨⟨(fun a ea => by injection ea with ea; subst ea; rfl), (by have h9 := hq.own; rw [List.length_replicate] at h9 ⊢; exact h9)⟩, (fun i r hr => .inl ((RI.start (xss rs) bad k n).nil i r hr (.inl (Nat.zero_le _)))), (fun i j r s g hr _ hg _ => by rw [(RI.start (xss rs) bad k n).nil i r hr (.inl (Nat.zero_le _))] at hg; cases hg), (by omega)⟩
  have hA : Row (fun b => w.heap.size ≤ b ∧ b ≠ go ∧ ∀ r ∈ (List.replicate (k + 3) (⟨none, 0, []⟩ : Rw)), r.ao ≠ some ⟨b, 0, none⟩) wq 3 ei none 0 (li (lostL (min 0 k) bad)) := by rw [Nat.zero_min]; exact Row.nil _ _ _ _
  refine WC.loop (σ := Nat × (Option Addr × Nat) × List Rw) (fun s => [(0, .slice ao rs.length c), (1, .slice ab bad.length cb), (6, vi n), (8, vi k), (9, .slice (some ⟨go, 0, none⟩) (k + 3) (k + 3)), (10, .slice s.2.1.1 (li (lostL (min s.1 k) bad)).length s.2.1.2), (32, .slice ao rs.length c), (33, vi rs.length), (34, vi s.1)])
    (fun s w' => s.1 ≤ rs.length ∧ RI (xss rs) bad k n s.1 s.2.2 ∧ OB w' 26 5 go w'.heap.size s.2.2 ∧ Row (fun b => w.heap.size ≤ b ∧ b ≠ go ∧ ∀ r ∈ s.2.2, r.ao ≠ some ⟨b, 0, none⟩) w' 3 ei s.2.1.1 s.2.1.2 (li (lostL (min s.1 k) bad)) ∧ RS (· < w.heap.size) w' ao c rs ∧ RSl (· < w.heap.size) w' ei ab cb bad ∧ Chg Nob w w') (fun s => rs.length - s.1) (0, (none, 0), List.replicate (k + 3) ⟨none, 0, []⟩) ⟨rfl, rfl, rfl, rfl, rfl, by show some (Value.slice none 0 0) = some (Value.slice none (li (lostL (min 0 k) bad)).length 0); rw [Nat.zero_min]; rfl, rfl, rfl, rfl, trivial⟩ ⟨Nat.zero_le _, RI.start _ _ _ _, hO, hA, hc, hb, hw⟩ ?_
  clear hO hA hq hc hb hw
  rintro ⟨i, ⟨al, cl⟩, rs1⟩ w2 ⟨hi, hI, hO, hA, hc, hb, hw⟩
  simp only at hi hI hO hA
  dsimp only
  replace hA := hA.lt
  have zw2 := hw.size
  obtain ⟨N2, hN2⟩ : ∃ N2, N2 = w2.heap.size := ⟨_, rfl⟩
  rw [← hN2] at hO hA
  have hNw : N2 ≤ w2.heap.size := by omega
  have hil := hI.len
  refine WC.seq (WC.region (?_))
  refine WL.lss? rfl rfl rfl (fun h35 => ?_) (fun h35 => ?_)
  ·
    refine WL.nil (WX.then_normal (WC.seq (WC.cond_true rfl (WC.skip (WX.then_normal (WC.seq (WC.block (?_))))))))
    refine WC.seq (WC.region (WL.move rfl rfl (?_)))
    obtain ⟨r, hr⟩ : ∃ r, rs[i]? = some r := ⟨_, List.getElem?_eq_getElem (by omega)⟩
    have hrx := xss_at hr
    refine WL.indexT Tryz.underlying87 Tryz.sizeOf26 hc.outer rfl rfl ⟨hr, rfl⟩ rfl ?_
    intro b_1 o_1 hc_1
    refine WL.load Tryz.isAgg26 rfl (hc_1 0 _ rfl) rfl (WL.assign rfl rfl (WL.assign rfl rfl (WL.nil (WX.then_normal (WC.block (WC.seq (WC.region (?_))))))))
    refine WL.move rfl rfl (WL.move rfl rfl (?_))
    refine WL.call eg_48 rfl rfl (contains_calls hb (by omega) _) ?_
    rintro v w3 ⟨rfl, k3⟩
    have zs_k3 := k3.size
    replace hO := hO.pure k3
    replace hA := hA.pure k3
    replace hc := hc.pure k3
    replace hb := hb.pure k3
    replace hw := hw.pure k3
    by_cases hbi : (i : Int) ∈ bad
    ·
      rw [decide_eq_true hbi]
      refine WL.not rfl rfl (WL.assign rfl rfl (WL.nil (WX.then_normal (WC.cond_false rfl (WC.seq (WC.region (WL.move rfl rfl (?_))))))))
      refine WL.move rfl rfl (?_)
      refine WL.lss? rfl rfl rfl (fun h52 => ?_) (fun h52 => ?_)
      ·
        refine WL.assign rfl rfl (WL.nil (WX.then_normal (WC.cond_true rfl (WC.seq (WC.region (WL.move rfl rfl (WL.move rfl rfl (?_))))))))
        refine WL.move rfl rfl (?_)
        refine WL.make (e := eb) (0 : UInt8) n n Tryz.underlying26 info_5 rfl rfl rfl ⟨rfl, rfl, Nat.le_refl _⟩ (by constructor <;> omega) rfl ?_
        intro g wg hg9 kg zg eg
        rw [List.length_replicate]
        have hg : Row (fun b => b = g) wg 5 eb (some ⟨g, 0, none⟩) n (List.replicate n 0) := ⟨(fun a ea => by injection ea with ea; subst ea; rfl), hg9.own⟩
        clear hg9
        have zs_kg := kg.size
        replace hO := hO.pure kg
        replace hA := hA.pure kg
        replace hc := hc.pure kg
        replace hb := hb.pure kg
        replace hw := hw.pure kg
        refine WL.index (sz := 1) (j := i) Tryz.underlying87 Tryz.sizeOf26 rfl rfl rfl (by omega) rfl ?_
        refine WL.storeRow (z := ⟨some ⟨g, 0, none⟩, n, List.replicate n 0⟩) i Tryz.sizeOf26 hO.outer rfl (by show [Value.slice (some ⟨g, 0, none⟩) (List.replicate n 0).length n] = _; rw [List.length_replicate]) rfl (by show 0 + i * 1 = i; omega) (by omega) rfl ?_
        intro w5 z5 ho5 k5
        have zk5 := k5.size
        have hgl : g < _ := hg.own.lt _ rfl
        have hO5 := (hO.put (by omega) (by omega) hg k5 ho5).up (N' := w5.heap.size) (by omega)
        have hI5 := hI.put (g := g) (cr := n) (xs := List.replicate n 0) (fun h => by omega) (by omega) (by rw [List.length_replicate]) (fun h => absurd hbi h) (fun _ => rfl)
        have hA5 := (hA.chg k5 (fun b _ h1 h2 => h1.1.2.1 h2)).mono (S' := fun b => w.heap.size ≤ b ∧ b ≠ go ∧ ∀ s ∈ rs1.set i ⟨some ⟨g, 0, none⟩, n, List.replicate n 0⟩, s.ao ≠ some ⟨b, 0, none⟩) (fun b h => ⟨h.1.1, h.1.2.1, fun s hs e => by
          rcases List.mem_or_eq_of_mem_set hs with h1 | h1
          ·
            exact h.1.2.2 s h1 e
          ·
            rw [h1] at e
            injection e with e
            injection e with e
            have := h.2
            omega⟩)
        replace hc := hc.chg k5 (fun b _ h1 h2 => by have h3 : b = go := h2; omega)
        replace hb := hb.chg k5 (fun b _ h1 h2 => by have h3 : b = go := h2; omega)
        replace hw := hw.chg k5 (fun x h0 h2 => by have h3 : x = go := h2; omega)
        refine WL.nil (WX.then_normal (WC.region (WL.move rfl rfl (WL.move rfl rfl (?_)))))
        refine WL.build (e := ei) [(i : Int)] Tryz.underlying39 Tryz.sizeOf3 Tryz.zeroValue3 rfl rfl rfl (by simp [Value.cells] <;> rfl) (by decide) rfl ?_
        intro a_qn w_qn qn l_qn z_qn k_qn
        have zs_k_qn := k_qn.size
        replace hc := hc.pure k_qn
        replace hb := hb.pure k_qn
        replace hw := hw.pure k_qn
        replace hO5 := hO5.pure k_qn
        replace hA5 := hA5.pure k_qn
        have hlo5 := hO5.lo
        have hll : (li (lostL (min i k) bad)).length ≤ 16 := by
          rw [li_len, lostL]
          exact Nat.le_trans (List.length_filter_le _ _) (by rw [List.length_range]; omega)
        refine WL.append (e := ei) (xs := li (lostL (min i k) bad)) (S := fun b => w.heap.size ≤ b ∧ b ≠ go ∧ ∀ s ∈ rs1.set i ⟨some ⟨g, 0, none⟩, n, List.replicate n 0⟩, s.ao ≠ some ⟨b, 0, none⟩) info_3 rfl Tryz.underlying39 rfl rfl hA5 (qn.rsl.src Tryz.underlying39) (by constructor <;> (simp only [List.length_cons, List.length_nil]; omega)) (fun b hb => ⟨by omega, by omega, fun s hs e => by obtain ⟨j, hj⟩ := List.getElem?_of_mem hs; have := (hO5.at hj e).1; omega⟩) rfl ?_
        intro a9 c9 w9 hA9 g9 n9
        have k9 := g9.chg
        have zk9 := k9.size
        have hO9 := (hO5.chg2 k9 (fun h => h.2.2.1 rfl) (fun s hs gg e h => h.2.2.2 s hs e)).up (N' := w9.heap.size) (by omega)
        replace hc := hc.chg k9 (fun b _ h1 h2 => by have := h2.2.1; omega)
        replace hb := hb.chg k9 (fun b _ h1 h2 => by have := h2.2.1; omega)
        replace hw := hw.chg k9 (fun x h0 h2 => by have := h2.2.1; omega)
        have e9 : li (lostL (min i k) bad) ++ [(i : Int)] = li (lostL (min (i + 1) k) bad) := by
          rw [Nat.min_eq_left (by omega), Nat.min_eq_left (by omega), lost_next, if_pos hbi, li_app]
          rfl
        rw [e9] at hA9 ⊢
        refine WL.assign rfl rfl (WL.nil (WX.block_normal (WX.block_normal (WX.then_normal (WC.region (WL.add64 rfl rfl (by omega) rfl (WL.move rfl rfl (?_))))))))
        refine WL.nil (?_)
        exact WX.loop_next (i + 1, (a9, c9), rs1.set i ⟨some ⟨g, 0, none⟩, n, List.replicate n 0⟩) ⟨rfl, rfl, rfl, rfl, rfl, rfl, rfl, rfl, rfl, trivial⟩ ⟨by show i + 1 ≤ _; omega, hI5, hO9, hA9, hc, hb, hw⟩ (by show rs.length - (i + 1) < rs.length - i; omega)
      ·
        refine WL.assign rfl rfl (WL.nil (WX.then_normal (WC.cond_false rfl (WC.skip (WX.block_normal (WX.block_normal (WX.then_normal (?_))))))))
        refine WC.region (WL.add64 rfl rfl (by omega) rfl (WL.move rfl rfl (WL.nil (?_))))
        have hle : lostL (min (i + 1) k) bad = lostL (min i k) bad := by
          rw [Nat.min_eq_right (by omega), Nat.min_eq_right (by omega)]
        have hA5 := hA.mono (S' := fun b => w.heap.size ≤ b ∧ b ≠ go ∧ ∀ s ∈ rs1, s.ao ≠ some ⟨b, 0, none⟩) (fun b h => h.1)
        rw [← hle] at hA5 ⊢
        exact WX.loop_next (i + 1, (al, cl), rs1) ⟨rfl, rfl, rfl, rfl, rfl, rfl, rfl, rfl, rfl, trivial⟩ ⟨by show i + 1 ≤ _; omega, hI.skip ⟨by omega, hbi⟩, hO.up (by omega), hA5, hc, hb, hw⟩ (by show rs.length - (i + 1) < rs.length - i; omega)
    ·
      have hrl : r.xs.length = n := hev.2.2 i r.xs hrx hbi
      rw [decide_eq_false hbi]
      refine WL.not rfl rfl (WL.assign rfl rfl (WL.nil (WX.then_normal (WC.cond_true rfl (WC.region (WL.move rfl rfl (WL.move rfl rfl (?_))))))))
      refine WL.move rfl rfl (?_)
      refine WL.call eg_63 rfl rfl (jclone_calls (hc.at hr) (by omega) (by omega)) ?_
      rintro v w4 ⟨⟨g, cg, rfl, hg, hgN⟩, k4⟩
      have zs_k4 := k4.size
      replace hO := hO.pure k4
      replace hA := hA.pure k4
      replace hc := hc.pure k4
      replace hb := hb.pure k4
      replace hw := hw.pure k4
      refine WL.index (sz := 1) (j := i) Tryz.underlying87 Tryz.sizeOf26 rfl rfl rfl (by omega) rfl ?_
      refine WL.storeRow (z := ⟨some ⟨g, 0, none⟩, cg, r.xs⟩) i Tryz.sizeOf26 hO.outer rfl rfl rfl (by show 0 + i * 1 = i; omega) (by omega) rfl ?_
      intro w5 z5 ho5 k5
      have zk5 := k5.size
      have hgl : g < _ := hg.own.lt _ rfl
      have hO5 := (hO.put (by omega) (by omega) hg k5 ho5).up (N' := w5.heap.size) (by omega)
      have hI5 := hI.put (g := g) (cr := cg) (xs := r.xs) (fun h => hbi h.2) (by omega) hrl (fun _ => hrx) (fun h => absurd h hbi)
      have hA5 := (hA.chg k5 (fun b _ h1 h2 => h1.1.2.1 h2)).mono (S' := fun b => w.heap.size ≤ b ∧ b ≠ go ∧ ∀ s ∈ rs1.set i ⟨some ⟨g, 0, none⟩, cg, r.xs⟩, s.ao ≠ some ⟨b, 0, none⟩) (fun b h => ⟨h.1.1, h.1.2.1, fun s hs e => by
        rcases List.mem_or_eq_of_mem_set hs with h1 | h1
        ·
          exact h.1.2.2 s h1 e
        ·
          rw [h1] at e
          injection e with e
          injection e with e
          have := h.2
          omega⟩)
      replace hc := hc.chg k5 (fun b _ h1 h2 => by have h3 : b = go := h2; omega)
      replace hb := hb.chg k5 (fun b _ h1 h2 => by have h3 : b = go := h2; omega)
      replace hw := hw.chg k5 (fun x h0 h2 => by have h3 : x = go := h2; omega)
      refine WL.nil (WX.block_normal (WX.block_normal (WX.then_normal (WC.region (WL.add64 rfl rfl (by omega) rfl (WL.move rfl rfl (WL.nil (?_))))))))
      have hle : lostL (min (i + 1) k) bad = lostL (min i k) bad := by
        rcases Nat.lt_or_ge i k with h | h
        ·
          rw [Nat.min_eq_left (by omega), Nat.min_eq_left (by omega), lost_next, if_neg hbi, List.append_nil]
        ·
          rw [Nat.min_eq_right (by omega), Nat.min_eq_right (by omega)]
      rw [← hle] at hA5 ⊢
      exact WX.loop_next (i + 1, (al, cl), rs1.set i ⟨some ⟨g, 0, none⟩, cg, r.xs⟩) ⟨rfl, rfl, rfl, rfl, rfl, rfl, rfl, rfl, rfl, trivial⟩ ⟨by show i + 1 ≤ _; omega, hI5, hO5, hA5, hc, hb, hw⟩ (by show rs.length - (i + 1) < rs.length - i; omega)
  ·
    refine WL.nil (WX.then_normal (WC.seq (WC.cond_false rfl (WC.exit (WX.then_exit (WX.then_exit (WX.block_here (?_))))))))
    refine WX.then_normal (WC.seq (WC.region (?_)))
    refine WL.bld rfl bldF rfl ?_
    have him : i = rs.length := by omega
    refine WL.box rfl rfl ?_
    intro gx wx hgex hltx hbx kx
    have zs_kx := kx.size
    replace hO := hO.pure kx
    replace hA := hA.pure kx
    replace hc := hc.pure kx
    replace hb := hb.pure kx
    replace hw := hw.pure kx
    refine WL.assign rfl rfl (WL.nil (WX.then_normal (WC.seq (WC.seq (WC.region (WL.move rfl rfl (WL.move rfl rfl (?_))))))))
    refine WL.move rfl rfl (WL.move rfl rfl (WL.move rfl rfl (?_)))
    have emk : min i k = k := Nat.min_eq_right (by omega)
    rw [emk] at hA ⊢
    have hOx := hO.up (N' := gx) (by omega)
    have hLx : RSl (Off rs1 go gx) _ ei al cl (li (lostL k bad)) := hA.rsl.mono (fun b h => ⟨by have := h.2; omega, h.1.2.1, h.1.2.2⟩)
    have hh := heal_calls (.inl hbx) hOx hLx hk1 hil (by omega) hb3 (fun j r h1 h2 h3 => hI.nil j r h1 (.inr ⟨h2, h3⟩)) (fun j r h1 h2 => hI.real j r h1 (by have := (List.getElem?_eq_some_iff.1 h1).1; omega) h2) (fun j r h1 h2 => hI.zero j r h1 (by have := (List.getElem?_eq_some_iff.1 h1).1; omega) (lost_mem.1 h2).1 (lost_mem.1 h2).2)
    rw [hil] at hh
    refine WL.call eg_92 rfl rfl (hh) ?_
    rintro v w7 ⟨rfl, ⟨rs3, hH, hO3⟩, hF7, k7⟩
    have hl3 : rs3.length = k + 3 := by rw [hH.len]; exact hil
    replace hw := hw.chg k7 (fun x h0 h1 => by have h3 : go ≤ x := h1; omega)
    refine WL.assign rfl rfl (WL.nil (WX.then_normal (WC.seq (WC.region (WL.move rfl rfl (?_))))))
    refine WL.neqF rfl rfl rfl (by rfl) ?_
    refine WL.nil (WX.then_normal (WC.cond_false rfl (WC.skip (WX.then_normal (WC.seq (WC.seq (WC.region (?_))))))))
    refine WL.move rfl rfl (WL.move rfl rfl (WL.move rfl rfl (?_)))
    have hOr := hO3.toRS (S := fun b => b < gx) (fun x _ h => h)
    refine WL.slice (e := erow) (xs := rs3) (l := 0) (h := k) (k := .i64) (j := .i64) Tryz.underlying87 Tryz.sizeOf26 hOr.outer (by show some (Value.slice _ (k + 3) (k + 3)) = some (Value.slice _ rs3.length rs3.length); rw [hl3]) (.inr ⟨rfl, rfl⟩) (.inl rfl) ⟨Nat.zero_le _, by omega⟩ rfl ?_
    intro az cz hz1 nz
    refine WL.move rfl rfl (?_)
    have hcc : RS (fun b => b < gx) _ az cz ((rs3.take k).drop 0) := ⟨hz1, fun r h => hOr.inner r (List.mem_of_mem_take (List.mem_of_mem_drop h))⟩
    have hlk : ((rs3.take k).drop 0).length = k := by simp; omega
    have hgx7 := hF7.lt
    have hlo3 := hO3.lo
    have hblk3 : ∀ (j : Nat) (r : Rw) (g' : Nat), rs3[j]? = some r → r.ao = some ⟨g', 0, none⟩ → g' < gx := fun j r g' h1 h2 => (hO3.at h1 h2).1.2
    have hal : ∀ d ∈ xss ((rs3.take k).drop 0), d.length = n := fun d hd => by
      obtain ⟨j, hj⟩ := List.getElem?_of_mem hd
      have hjk : j < k := by have := (List.getElem?_eq_some_iff.1 hj).1; rw [xss_len, hlk] at this; exact this
      rw [xss_take, List.getElem?_take_of_lt hjk, xss, List.getElem?_map] at hj
      obtain ⟨r3, hr3⟩ : ∃ r3, rs3[j]? = some r3 := ⟨_, List.getElem?_eq_getElem (by omega)⟩
      rw [hr3] at hj
      injection hj with hj
      obtain ⟨r1, hr1, _, _, h5, _⟩ := hH.back hr3
      obtain ⟨_, _, h6⟩ := hI.real j r1 hr1 (by omega) (fun h => by omega)
      rw [← hj, h5, h6]
    refine WL.call eg_78 rfl rfl (sums_calls hF7 hcc (by omega) (by omega) hal) ?_
    rintro v w8 ⟨⟨g2, gs, rfl, hP, hgs3, hg2⟩, k8⟩
    obtain ⟨PP, hPP⟩ : ∃ PP, PP = three (xss ((rs3.take k).drop 0)) n ((rs3.take k).drop 0).length := ⟨_, rfl⟩
    rw [← hPP] at hP
    have hol : (orows gs n PP).length = 3 := by rw [orows_len hP.len, hgs3]
    have zk8 := k8.size
    have hg2l := hP.lto
    have hpx0 : ∀ q, q < 3 → ∃ g x, gs[q]? = some g ∧ (orows gs n PP)[q]? = some ⟨some ⟨g, 0, none⟩, n, x⟩ ∧ PP[q]? = some x ∧ g2 < g ∧ g < w8.heap.size := fun q hq => by
      obtain ⟨g, hg⟩ : ∃ g, gs[q]? = some g := ⟨_, List.getElem?_eq_getElem (by omega)⟩
      obtain ⟨x, hx⟩ : ∃ x, PP[q]? = some x := ⟨_, List.getElem?_eq_getElem (by rw [← hP.len, hgs3]; exact hq)⟩
      refine ⟨g, x, hg, ?_, hx, hP.above q g hg, hP.lt hg⟩
      have := orows_at (tl := []) (n := n) hg hx
      rwa [List.append_nil] at this
    replace hO3 := hO3.chg k8 (fun x _ h1 h2 => by have h3 : gx ≤ x := h2; omega)
    replace hw := hw.chg k8 (fun x h0 h1 => by have h3 : gx ≤ x := h1; omega)
    refine WL.len Tryz.underlying87 rfl rfl (WL.move rfl rfl (WL.nil (WX.then_normal (WC.block (?_)))))
    have hO4 := hO3.up (N' := w8.heap.size) (by omega)
    refine WC.loop (σ := Nat × List Rw) (fun s => [(8, vi k), (9, .slice (some ⟨go, 0, none⟩) (k + 3) (k + 3)), (79, .slice (some ⟨g2, 0, none⟩) 3 3), (80, vi 3), (81, vi s.1)])
      (fun s w' => s.1 ≤ 3 ∧ FI rs3 (orows gs n PP) bad k s.1 s.2 ∧ OB w' 26 5 go w8.heap.size s.2 ∧ OR w' 26 5 g2 3 gs n PP [] ∧ Chg Nob w w') (fun s => 3 - s.1) (0, rs3) ⟨rfl, rfl, rfl, rfl, rfl, trivial⟩ ⟨Nat.zero_le _, FI.start _ _ hl3, hO4, hP, hw⟩ ?_
    clear hO4 hO3 hP hw
    rintro ⟨q, rs4⟩ w9 ⟨hq, hFI, hO4, hP, hw⟩
    simp only at hq hFI hO4
    dsimp only
    refine WC.seq (WC.region (?_))
    refine WL.lss? rfl rfl rfl (fun h82 => ?_) (fun h82 => ?_)
    ·
      refine WL.nil (WX.then_normal (WC.seq (WC.cond_true rfl (WC.skip (WX.then_normal (WC.seq (WC.block (?_))))))))
      refine WC.seq (WC.region (WL.move rfl rfl (?_)))
      obtain ⟨g, x, hgq, hpx, hPx, hg2g, hg8⟩ := hpx0 q (by omega)
      have hPr := hP.outer.rsl
      rw [List.append_nil] at hPr
      refine WL.indexT (e := erow) Tryz.underlying87 Tryz.sizeOf26 hPr (by show some (Value.slice _ 3 3) = some (Value.slice _ (orows gs n PP).length 3); rw [hol]) rfl ⟨hpx, rfl⟩ rfl ?_
      intro bb oo hcc8
      refine WL.load Tryz.isAgg26 rfl (hcc8 0 _ rfl) rfl ?_
      refine WL.assign rfl rfl (WL.assign rfl rfl (WL.nil (WX.then_normal (WC.seq (WC.region (WL.move rfl rfl (WL.move rfl rfl (?_))))))))
      refine WL.move rfl rfl (?_)
      refine WL.add64 rfl rfl (by constructor <;> omega) rfl ?_
      rw [show ((k : Int) + (q : Int)) = ((k + q : Nat) : Int) from by omega]
      obtain ⟨r4, hr4⟩ : ∃ r, rs4[k + q]? = some r := ⟨_, List.getElem?_eq_getElem (by rw [hFI.len]; omega)⟩
      have hr43 : rs3[k + q]? = some r4 := by rw [← hr4, hFI.par q (by omega), if_neg (by omega)]
      obtain ⟨r1, hr1, hao1, _, _, _⟩ := hH.back hr43
      refine WL.indexT (e := erow) Tryz.underlying87 Tryz.sizeOf26 hO4.outer.rsl (by show some (Value.slice _ (k + 3) (k + 3)) = some (Value.slice _ rs4.length rs4.length); rw [hFI.len]) rfl ⟨hr4, rfl⟩ rfl ?_
      intro bb oo hcc9
      refine WL.load Tryz.isAgg26 rfl (hcc9 0 _ rfl) rfl ?_
      refine WL.isNil Tryz.underlying26 rfl rfl rfl ?_
      by_cases hbq : ((k + q : Nat) : Int) ∈ bad
      ·
        rw [show r4.ao.isNone = true from by rw [hao1, hI.nil (k + q) r1 hr1 (.inr ⟨by omega, hbq⟩)]; rfl]
        refine WL.nil (WX.then_normal (WC.cond_true rfl (WC.region (WL.move rfl rfl (WL.move rfl rfl (WL.move rfl rfl (?_)))))))
        refine WL.add64 rfl rfl (by constructor <;> omega) rfl ?_
        rw [show ((k : Int) + (q : Int)) = ((k + q : Nat) : Int) from by omega]
        refine WL.move rfl rfl (?_)
        refine WL.index (sz := 1) (j := k + q) Tryz.underlying87 Tryz.sizeOf26 rfl rfl rfl (by omega) rfl ?_
        have hfil := hFI.len
        refine WL.storeRow (z := ⟨some ⟨g, 0, none⟩, n, x⟩) (k + q) Tryz.sizeOf26 hO4.outer rfl rfl rfl (by show 0 + (k + q) * 1 = k + q; omega) (by omega) rfl ?_
        intro w5 z5 ho5 k5
        have hO5 := hO4.put2 (by omega) ⟨by omega, hg8⟩ (fun r hr e => by
          obtain ⟨j, hj⟩ := List.getElem?_of_mem hr
          have hjl := (List.getElem?_eq_some_iff.1 hj).1
          rcases Nat.lt_or_ge j k with h1 | h1
          ·
            rw [hFI.low j h1] at hj
            have := hblk3 j r g hj e
            omega
          ·
            obtain ⟨q', rfl⟩ : ∃ q', j = k + q' := ⟨j - k, by omega⟩
            rw [hFI.par q' (by omega)] at hj
            split at hj
            ·
              rename_i h2
              obtain ⟨g', x', hg', hp', _, _, _⟩ := hpx0 q' (by omega)
              rw [hp'] at hj
              injection hj with hj
              rw [← hj] at e
              injection e with e
              injection e with e
              subst e
              have := hP.apart q' q _ hg' hgq
              omega
            ·
              have := hblk3 _ r g hj e
              omega) (hP.inner q g x hgq hPx) k5 ho5
        have hP5 := hP.chg k5 ⟨fun h => by have h3 : g2 = go := h; omega, fun i' g' h1 h => by have h3 : g' = go := h; have := hP.above i' g' h1; omega⟩
        replace hw := hw.chg k5 (fun x h0 h1 => by have h3 : x = go := h1; omega)
        have hFI5 := hFI.put hbq (by omega) hpx
        refine WL.nil (WX.block_normal (WX.then_normal (WC.region (WL.add64 rfl rfl (by omega) rfl (WL.move rfl rfl (WL.nil (?_)))))))
        exact WX.loop_next (q + 1, rs4.set (k + q) ⟨some ⟨g, 0, none⟩, n, x⟩) ⟨rfl, rfl, rfl, rfl, rfl, trivial⟩ ⟨by show q + 1 ≤ 3; omega, hFI5, hO5, hP5, hw⟩ (by show 3 - (q + 1) < 3 - q; omega)
      ·
        obtain ⟨gq, hgq4, _⟩ := hI.real (k + q) r1 hr1 (by omega) (fun h => hbq h.2)
        rw [show r4.ao.isNone = false from by rw [hao1, hgq4]; rfl]
        refine WL.nil (WX.then_normal (WC.cond_false rfl (WC.skip (WX.block_normal (WX.then_normal (WC.region (WL.add64 rfl rfl (by omega) rfl (?_))))))))
        refine WL.move rfl rfl (WL.nil (?_))
        exact WX.loop_next (q + 1, rs4) ⟨rfl, rfl, rfl, rfl, rfl, trivial⟩ ⟨by show q + 1 ≤ 3; omega, hFI.skip hbq, hO4, hP, hw⟩ (by show 3 - (q + 1) < 3 - q; omega)
    ·
      refine WL.nil (WX.then_normal (WC.seq (WC.cond_false rfl (WC.exit (WX.then_exit (WX.then_exit (WX.block_here (?_))))))))
      refine WX.then_normal (WC.seq (WC.region (WL.move rfl rfl (WL.assign rfl rfl (WL.assign rfl rfl (WL.nil (WX.then_normal (?_))))))))
      refine WC.ret (?_)
      refine WX.ret2 (.inl rfl) Tryz.results74 rfl rfl ?_
      have hq3 : q = 3 := by omega
      subst hq3
      refine ⟨_, rfl, ⟨go, _, rs4, rfl, hO4, hgo, ?_⟩, hw⟩
      have hI2 := hI
      rw [show i = k + 3 by omega] at hI2
      refine rb_fin hI2 hH hFI.len hFI.low (fun q' h1 h2 => by rw [hFI.par q' h1, if_neg (fun h => h2 h.2)]) (fun q' h1 h2 => ?_)
      obtain ⟨g', x', hg', hp', hx', _, _⟩ := hpx0 q' h1
      refine ⟨_, by rw [hFI.par q' h1, if_pos ⟨h1, h2⟩]; exact hp', ?_⟩
      rw [hPP, three_at h1] at hx'
      injection hx' with hx'
      have htk : (xss rs3).take k = (xss rs4).take k := by
        apply List.ext_getElem?
        intro j
        rcases Nat.lt_or_ge j k with h3 | h3
        ·
          rw [List.getElem?_take_of_lt h3, List.getElem?_take_of_lt h3, xss, xss, List.getElem?_map, List.getElem?_map, hFI.low j h3]
        ·
          rw [List.getElem?_eq_none (by rw [List.length_take]; omega), List.getElem?_eq_none (by rw [List.length_take]; omega)]
      rw [← hx', hlk, xss_take, htk]
end Go.Proofs.YtggecdldnpildaaGreat
/-! plain: the rows of a block, its cells, what they hold, how they are read -/
namespace Go.HL
open Go.RowKit
def er2 : Enc (Nat × Nat) := ⟨2, fun p => [vi p.1, vi p.2], fun _ => rfl, by simp [Value.oneCell'], by decide⟩
/-- a block's sectors -/
def secsA (size : Nat) : Nat := (size + 127) / 128
def rowsF (n : Nat) : Nat → Nat → Nat → List (Nat × Nat)
  | 0, _, _ => []
  | f + 1, a, l => if l = 0 then [] else (a, min l (n - 3)) :: rowsF n f (a + min l (n - 3) + 3) (l - min l (n - 3))
def rowsA (n a l : Nat) : List (Nat × Nat) := rowsF n l a l
theorem rowsF_fuel {n : Nat} (hn : 4 ≤ n) : ∀ (f l a : Nat), l ≤ f → rowsF n f a l = rowsF n l a l := by
  intro f
  induction f using Nat.strongRecOn with
  | _ f ih =>
    intro l a h
    cases f with
    | zero =>
      have : l = 0 := by omega
      subst this
      rfl
    | succ f =>
      cases l with
      | zero => rfl
      | succ l =>
        have hk : 1 ≤ min (l + 1) (n - 3) := by omega
        rw [rowsF, rowsF, if_neg (Nat.succ_ne_zero l), if_neg (Nat.succ_ne_zero l), ih f (Nat.lt_succ_self f) (l + 1 - min (l + 1) (n - 3)) _ (by omega)]
        by_cases e : l = f
        · subst e
          rw [ih l (Nat.lt_succ_self l) (l + 1 - min (l + 1) (n - 3)) _ (by omega)]
        · rw [ih l (by omega) (l + 1 - min (l + 1) (n - 3)) _ (by omega)]
theorem rowsA_nil (n a : Nat) : rowsA n a 0 = [] := rfl
theorem rowsA_cons {n a l : Nat} (hn : 4 ≤ n) (hl : 0 < l) : rowsA n a l = (a, min l (n - 3)) :: rowsA n (a + min l (n - 3) + 3) (l - min l (n - 3)) := by
  cases l with
  | zero => omega
  | succ l => rw [rowsA, rowsF, if_neg (Nat.succ_ne_zero l), rowsF_fuel hn _ _ _ (by omega)]; rfl
def sumR (rs : List (Nat × Nat)) : Nat := (rs.map fun r => r.2 + 3).sum
def costA (n l : Nat) : Nat := sumR (rowsA n 0 l)
theorem sumR_rows {n : Nat} (hn : 4 ≤ n) : ∀ (l a b : Nat), sumR (rowsA n a l) = sumR (rowsA n b l) := by
  intro l
  induction l using Nat.strongRecOn with
  | _ l ih =>
    intro a b
    rcases Nat.eq_zero_or_pos l with rfl | hl
    · rfl
    · have hk : 1 ≤ min l (n - 3) := by omega
      rw [rowsA_cons hn hl, rowsA_cons (a := b) hn hl, sumR, sumR, List.map_cons, List.map_cons, List.sum_cons, List.sum_cons]
      have := ih (l - min l (n - 3)) (by omega) (a + min l (n - 3) + 3) (b + min l (n - 3) + 3)
      rw [sumR, sumR] at this
      rw [this]
theorem sumR_cons (r : Nat × Nat) (rs : List (Nat × Nat)) : sumR (r :: rs) = r.2 + 3 + sumR rs := by rw [sumR, sumR, List.map_cons, List.sum_cons]
theorem sumR_snoc (rs : List (Nat × Nat)) (r : Nat × Nat) : sumR (rs ++ [r]) = sumR rs + (r.2 + 3) := by simp [sumR]
theorem sumR_take (rs : List (Nat × Nat)) (i : Nat) : sumR (rs.take i) ≤ sumR rs := by
  induction rs generalizing i with
  | nil => simp
  | cons r rs ih =>
    cases i with
    | zero => simp [sumR]
    | succ i =>
      have := ih i
      rw [List.take_succ_cons, sumR_cons, sumR_cons]
      omega
/-- each row has 1 to n - 3 data sectors, and lies within the block -/
theorem rowsA_mem {n : Nat} (hn : 4 ≤ n) : ∀ (l a : Nat) (r : Nat × Nat), r ∈ rowsA n a l → (1 ≤ r.2 ∧ r.2 + 3 ≤ n ∧ r.2 ≤ l) ∧ a ≤ r.1 ∧ r.1 + r.2 + 3 ≤ a + sumR (rowsA n a l) := by
  intro l
  induction l using Nat.strongRecOn with
  | _ l ih =>
    intro a r hr
    rcases Nat.eq_zero_or_pos l with rfl | hl
    · cases hr
    · have hk : 1 ≤ min l (n - 3) := by omega
      rw [rowsA_cons hn hl] at hr ⊢
      rw [sumR_cons]
      rcases List.mem_cons.1 hr with rfl | h
      · dsimp only
        omega
      · have := ih (l - min l (n - 3)) (by omega) _ r h
        dsimp only
        omega
theorem rowsA_len {n : Nat} (hn : 4 ≤ n) : ∀ (l a : Nat), (rowsA n a l).length ≤ l := by
  intro l
  induction l using Nat.strongRecOn with
  | _ l ih =>
    intro a
    rcases Nat.eq_zero_or_pos l with rfl | hl
    · exact Nat.le_refl _
    · have hk : 1 ≤ min l (n - 3) := by omega
      have := ih (l - min l (n - 3)) (by omega) (a + min l (n - 3) + 3)
      rw [rowsA_cons hn hl, List.length_cons]
      omega
theorem costA_all : ∀ n, n < 17 → 5 ≤ n → ∀ l, l < 9 → costA n l = l + 3 * ((l + n - 4) / (n - 3)) ∧ costA n l ≤ 20 := by decide +kernel
theorem costA_is {n l : Nat} (hn : 5 ≤ n ∧ n ≤ 16) (hl : l ≤ 8) : costA n l = l + 3 * ((l + n - 4) / (n - 3)) ∧ costA n l ≤ 20 := costA_all n (by omega) hn.1 l (by omega)
theorem secsA_le {size : Nat} (h : size ≤ 1024) : secsA size ≤ 8 := by rw [secsA]; omega
theorem secsA_pos {size : Nat} (h : 1 ≤ size) : 1 ≤ secsA size := by rw [secsA]; omega
theorem secsA_up {size : Nat} : size ≤ 128 * secsA size ∧ 128 * secsA size < size + 128 := by rw [secsA]; omega
/-! what a block's cells hold -/
def chunksA : Nat → List UInt8 → List (List UInt8)
  | 0, _ => []
  | k + 1, p => p.take 128 :: chunksA k (p.drop 128)
theorem chunksA_len : ∀ (k : Nat) (p : List UInt8), (chunksA k p).length = k
  | 0, _ => rfl
  | k + 1, p => by rw [chunksA, List.length_cons, chunksA_len k]
theorem chunksA_all : ∀ (k : Nat) (p : List UInt8), 128 * k ≤ p.length → ∀ c ∈ chunksA k p, c.length = 128
  | 0, _, _, c, hc => by cases hc
  | k + 1, p, h, c, hc => by
    rcases List.mem_cons.1 hc with rfl | h1
    · rw [List.length_take]; omega
    · exact chunksA_all k (p.drop 128) (by rw [List.length_drop]; omega) c h1
theorem chunksA_snoc : ∀ (k : Nat) (p : List UInt8), chunksA (k + 1) p = chunksA k p ++ [(p.drop (128 * k)).take 128]
  | 0, p => by simp [chunksA]
  | k + 1, p => by
    rw [chunksA, chunksA_snoc k (p.drop 128), chunksA, List.drop_drop, show 128 + 128 * k = 128 * (k + 1) from by omega]
    rfl
theorem chunksA_flat : ∀ (k : Nat) (p : List UInt8), (chunksA k p).flatten = p.take (128 * k)
  | 0, _ => by simp [chunksA]
  | k + 1, p => by
    rw [chunksA, List.flatten_cons, chunksA_flat k, show 128 * (k + 1) = 128 + 128 * k from by omega, List.take_add]
/-- the cells of a block's rows, from their padded bytes -/
def layR : List (Nat × Nat) → List UInt8 → List (List UInt8)
  | [], _ => []
  | r :: rs, p => three (chunksA r.2 p) 128 r.2 ++ chunksA r.2 p ++ layR rs (p.drop (128 * r.2))
def padA (b : List UInt8) : List UInt8 := b ++ List.replicate 128 0
def layA (n : Nat) (b : List UInt8) : List (List UInt8) := layR (rowsA n 0 (secsA b.length)) (padA b)
def datR (rs : List (Nat × Nat)) : Nat := (rs.map (·.2)).sum
theorem datR_cons (r : Nat × Nat) (rs : List (Nat × Nat)) : datR (r :: rs) = r.2 + datR rs := by rw [datR, datR, List.map_cons, List.sum_cons]
theorem datR_rows {n : Nat} (hn : 4 ≤ n) : ∀ (l a : Nat), datR (rowsA n a l) = l := by
  intro l
  induction l using Nat.strongRecOn with
  | _ l ih =>
    intro a
    rcases Nat.eq_zero_or_pos l with rfl | hl
    · rfl
    · have hk : 1 ≤ min l (n - 3) := by omega
      rw [rowsA_cons hn hl, datR_cons, ih (l - min l (n - 3)) (by omega)]
      dsimp only
      omega
theorem layR_append : ∀ (rs qs : List (Nat × Nat)) (p : List UInt8), layR (rs ++ qs) p = layR rs p ++ layR qs (p.drop (128 * datR rs))
  | [], qs, p => by simp [layR, datR]
  | r :: rs, qs, p => by
    rw [List.cons_append, layR, layR_append rs qs, layR, datR_cons, List.drop_drop, Nat.mul_add]
    simp only [List.append_assoc]
theorem three_len (cols : List (List UInt8)) (n i : Nat) : (three cols n i).length = 3 := rfl
theorem three_all {cols : List (List UInt8)} {n i : Nat} (h : ∀ d ∈ cols, d.length = n) (hi : i ≤ cols.length) : ∀ d ∈ three cols n i, d.length = n := by
  intro d hd
  simp only [three, List.mem_cons, List.not_mem_nil, or_false] at hd
  rcases hd with rfl | rfl | rfl <;> exact prow_len h hi
theorem layR_len : ∀ (rs : List (Nat × Nat)) (p : List UInt8), (layR rs p).length = sumR rs
  | [], _ => rfl
  | r :: rs, p => by
    rw [layR, List.length_append, List.length_append, three_len, chunksA_len, layR_len rs, sumR_cons]
    omega
theorem layR_all : ∀ (rs : List (Nat × Nat)) (p : List UInt8), 128 * datR rs ≤ p.length → ∀ c ∈ layR rs p, c.length = 128
  | [], _, _, c, hc => by cases hc
  | r :: rs, p, h, c, hc => by
    rw [datR_cons] at h
    rw [layR] at hc
    have h1 := chunksA_all r.2 p (by omega)
    rcases List.mem_append.1 hc with h2 | h2
    · rcases List.mem_append.1 h2 with h3 | h3
      · exact three_all h1 (by rw [chunksA_len]; exact Nat.le_refl _) c h3
      · exact h1 c h3
    · exact layR_all rs (p.drop (128 * r.2)) (by rw [List.length_drop]; omega) c h2
/-- data first, then parities, as a row is read -/
def colsR (k : Nat) (p : List UInt8) : List (List UInt8) := chunksA k p ++ three (chunksA k p) 128 k
/-- a block is its data columns, one behind the other -/
def datsR : List (Nat × Nat) → List UInt8 → List UInt8
  | [], _ => []
  | r :: rs, p => ((colsR r.2 p).take r.2).flatten ++ datsR rs (p.drop (128 * r.2))
theorem datsR_is : ∀ (rs : List (Nat × Nat)) (p : List UInt8), datsR rs p = p.take (128 * datR rs)
  | [], p => by simp [datsR, datR]
  | r :: rs, p => by
    have e : (colsR r.2 p).take r.2 = chunksA r.2 p := by rw [colsR, List.take_append_of_le_length (by rw [chunksA_len]; exact Nat.le_refl _), List.take_of_length_le (by rw [chunksA_len]; exact Nat.le_refl _)]
    rw [datsR, e, chunksA_flat, datsR_is rs, datR_cons, Nat.mul_add, List.take_add]
/-! sets of drives, tried in their order -/
def combos : List Int → Nat → List Int → List (List Int)
  | _, 0, set => [set]
  | [], _ + 1, _ => []
  | d :: rest, n + 1, set => combos rest n (set ++ [d]) ++ combos rest (n + 1) set
theorem combos_nil (n : Nat) (set : List Int) : combos [] (n + 1) set = [] := rfl
theorem combos_zero (rest set : List Int) : combos rest 0 set = [set] := by cases rest <;> rfl
/-! sorted -/
def srt (l : List Int) : List Int := l.mergeSort fun x y => decide (x ≤ y)
theorem srt_perm (l : List Int) : (srt l).Perm l := List.mergeSort_perm _ _
theorem srt_len (l : List Int) : (srt l).length = l.length := (srt_perm l).length_eq
theorem srt_mem {l : List Int} {x : Int} : x ∈ srt l ↔ x ∈ l := (srt_perm l).mem_iff
theorem srt_sorted (l : List Int) : (srt l).Pairwise (· ≤ ·) := by
  have := List.pairwise_mergeSort (le := fun x y : Int => decide (x ≤ y)) (fun a b c h1 h2 => by simp at h1 h2 ⊢; omega) (fun a b => by simp; omega) l
  exact this.imp (fun h => by simpa using h)
theorem srt_id {l : List Int} (h : l.Pairwise (· ≤ ·)) : srt l = l := List.mergeSort_of_pairwise (h.imp (fun h => by simpa using h))
/-! which columns of a row are bad -/
def wrgA (ds bad : List Int) : List Int := ((List.range ds.length).filter fun i => decide (ds.getD i 0 ∈ bad)).map fun i : Nat => (i : Int)
theorem wrgA_mem {ds bad : List Int} {i : Nat} : (i : Int) ∈ wrgA ds bad ↔ i < ds.length ∧ ds.getD i 0 ∈ bad := by
  rw [wrgA, List.mem_map]
  constructor
  · rintro ⟨j, h1, h2⟩
    have : j = i := by omega
    subst this
    have := List.mem_filter.1 h1
    exact ⟨List.mem_range.1 this.1, of_decide_eq_true this.2⟩
  · rintro ⟨h1, h2⟩
    exact ⟨i, List.mem_filter.2 ⟨List.mem_range.2 h1, decide_eq_true h2⟩, rfl⟩
def wrgT (ds bad : List Int) (k : Nat) : List Int := ((List.range k).filter fun i => decide (ds.getD i 0 ∈ bad)).map fun i : Nat => (i : Int)
theorem wrgT_next (ds bad : List Int) (k : Nat) : wrgT ds bad (k + 1) = if ds.getD k 0 ∈ bad then wrgT ds bad k ++ [(k : Int)] else wrgT ds bad k := by
  rw [wrgT, List.range_succ, List.filter_append, List.map_append]
  by_cases h : ds.getD k 0 ∈ bad
  · rw [if_pos h, List.filter_cons_of_pos (by simpa using h)]
    rfl
  · rw [if_neg h, List.filter_cons_of_neg (by simpa using h)]
    simp [wrgT]
theorem wrgT_len (ds bad : List Int) (k : Nat) : (wrgT ds bad k).length ≤ k := by
  rw [wrgT, List.length_map]
  exact Nat.le_trans (List.length_filter_le _ _) (by rw [List.length_range]; exact Nat.le_refl _)
theorem wrgA_ok (ds bad : List Int) : OkBad ds.length (wrgA ds bad) := by
  have hp : (wrgA ds bad).Pairwise (· < ·) := by
    rw [wrgA, List.pairwise_map]
    exact (List.Pairwise.filter _ List.pairwise_lt_range).imp (fun h => by omega)
  intro i b hb
  have hm := List.mem_of_getElem? hb
  refine ⟨?_, fun c hi hc => ?_⟩
  · rw [wrgA, List.mem_map] at hm
    obtain ⟨j, h1, h2⟩ := hm
    have := List.mem_range.1 (List.mem_filter.1 h1).1
    omega
  · obtain ⟨h1, h2⟩ := List.getElem?_eq_some_iff.1 hb
    obtain ⟨h3, h4⟩ := List.getElem?_eq_some_iff.1 hc
    have := List.pairwise_iff_getElem.1 hp (i - 1) i h3 h1 (by omega)
    rw [h2, h4] at this
    exact this
theorem nodup_le : ∀ (l bad : List Int), l.Nodup → (∀ x ∈ l, x ∈ bad) → l.length ≤ bad.length
  | [], _, _, _ => Nat.zero_le _
  | x :: l, bad, hn, hs => by
    have hx := List.nodup_cons.1 hn
    have h1 := nodup_le l (bad.erase x) hx.2 (fun y hy => (List.mem_erase_of_ne (fun e : y = x => hx.1 (e ▸ hy))).2 (hs y (List.mem_cons_of_mem _ hy)))
    have h2 := List.length_erase_of_mem (hs x (List.mem_cons_self ..))
    have h3 := List.length_pos_of_mem (hs x (List.mem_cons_self ..))
    rw [List.length_cons]
    omega
theorem wrgA_len {ds bad : List Int} (hd : ds.Nodup) : (wrgA ds bad).length ≤ bad.length := by
  have e : wrgA ds bad = ((List.range ds.length).filter fun i => decide (ds.getD i 0 ∈ bad)).map fun i : Nat => (i : Int) := rfl
  rw [e, List.length_map]
  have h1 : (((List.range ds.length).filter fun i => decide (ds.getD i 0 ∈ bad)).map fun i => ds.getD i 0).Nodup := by
    rw [List.Nodup, List.pairwise_map]
    refine List.Pairwise.imp_of_mem ?_ (List.Pairwise.filter _ List.pairwise_lt_range)
    intro a b ha hb hab e
    have ha' := List.mem_range.1 (List.mem_filter.1 ha).1
    have hb' := List.mem_range.1 (List.mem_filter.1 hb).1
    rw [List.getD_eq_getElem?_getD, List.getD_eq_getElem?_getD, List.getElem?_eq_getElem ha', List.getElem?_eq_getElem hb'] at e
    have := (List.nodup_iff_pairwise_ne.1 hd)
    have := List.pairwise_iff_getElem.1 this a b ha' hb' hab
    exact this e
  have h2 : ∀ x ∈ (((List.range ds.length).filter fun i => decide (ds.getD i 0 ∈ bad)).map fun i => ds.getD i 0), x ∈ bad := by
    intro x hx
    obtain ⟨i, hi, rfl⟩ := List.mem_map.1 hx
    simpa using (List.mem_filter.1 hi).2
  have := nodup_le _ _ h1 h2
  rwa [List.length_map] at this
/-- what Rebuild makes of a row's columns -/
noncomputable def rbA (cols : List (List UInt8)) (bad : List Int) (k : Nat) : List (List UInt8) := @dite _ (∃ r, RB cols bad k 128 r) (Classical.propDecidable _) (fun h => Classical.choose h) (fun _ => [])
theorem rbA_of {cols r : List (List UInt8)} {bad : List Int} {k : Nat} (hk : k ≤ 13) (hb : bad.length ≤ 3) (h : RB cols bad k 128 r) : rbA cols bad k = r := by
  have hx : ∃ r, RB cols bad k 128 r := ⟨r, h⟩
  rw [rbA, dif_pos hx]
  exact RB.uniq hk hb (Classical.choose_spec hx) h
/-- columns of a row: their good ones have a sector's length -/
structure OkCol (cols : List (List UInt8)) (ds bad : List Int) : Prop where
  len : cols.length = ds.length
  four : 4 ≤ ds.length ∧ ds.length ≤ 16
  nod : ds.Nodup
  bad3 : bad.length ≤ 3
  good : ∀ (i : Nat) (c : List UInt8), cols[i]? = some c → ds.getD i 0 ∉ bad → c.length = 128
theorem OkCol.even {cols : List (List UInt8)} {ds bad : List Int} (h : OkCol cols ds bad) : EvenB cols (wrgA ds bad) 128 := by
  have h3 := wrgA_len (bad := bad) h.nod
  have h4 := h.bad3
  have h5 := h.four
  refine ⟨by decide, ?_, fun j x hx hj => h.good j x hx (fun hd => hj (wrgA_mem.2 ⟨by have := (List.getElem?_eq_some_iff.1 hx).1; rw [← h.len]; exact this, hd⟩))⟩
  by_cases hall : ∀ j, j < ds.length → (j : Int) ∈ wrgA ds bad
  · exfalso
    have h1 : ((List.range ds.length).filter fun i => decide (ds.getD i 0 ∈ bad)) = List.range ds.length := List.filter_eq_self.2 (fun i hi => by simpa using (wrgA_mem.1 (hall i (List.mem_range.1 hi))).2)
    have h2 : (wrgA ds bad).length = ds.length := by rw [wrgA, h1, List.length_map, List.length_range]
    omega
  · obtain ⟨j, hj⟩ := Classical.not_forall.1 hall
    obtain ⟨hj1, hj2⟩ := Classical.not_imp.1 hj
    exact ⟨j, _, List.getElem?_eq_getElem (by rw [h.len]; exact hj1), hj2⟩
theorem OkCol.err {cols : List (List UInt8)} {ds bad : List Int} (h : OkCol cols ds bad) : errB cols (wrgA ds bad) = 0 := by
  have h3 := wrgA_len (bad := bad) h.nod
  have h4 := h.bad3
  rw [errB_ok (by rw [h.len]; exact h.four) (by rw [h.len]; exact wrgA_ok ds bad) (by rw [lenB_of h.even]; omega), if_pos (by omega)]
/-- whole columns, and what is read of them but for the bad ones -/
theorem rbw {cols whole : List (List UInt8)} {bad : List Int} {k : Nat} (hl : whole.length = k + 3) (hall : ∀ x ∈ whole, x.length = 128) (hp : ∀ q, q < 3 → whole[k + q]? = some (prow (wtq q) (whole.take k) 128 k)) (hs : ∀ i, i < k + 3 → (i : Int) ∉ bad → whole[i]? = cols[i]?) : RB cols bad k 128 whole :=
  ⟨hl, hall, hs, fun q hq _ => hp q hq⟩
theorem colsR_len (k : Nat) (p : List UInt8) : (colsR k p).length = k + 3 := by rw [colsR, List.length_append, chunksA_len, three_len]
theorem colsR_take (k : Nat) (p : List UInt8) : (colsR k p).take k = chunksA k p := by
  rw [colsR, List.take_append_of_le_length (by rw [chunksA_len]; exact Nat.le_refl _), List.take_of_length_le (by rw [chunksA_len]; exact Nat.le_refl _)]
theorem colsR_all {k : Nat} {p : List UInt8} (h : 128 * k ≤ p.length) : ∀ c ∈ colsR k p, c.length = 128 := by
  intro c hc
  have h1 := chunksA_all k p h
  rcases List.mem_append.1 hc with h2 | h2
  · exact h1 c h2
  · exact three_all h1 (by rw [chunksA_len]; exact Nat.le_refl _) c h2
theorem colsR_par (k : Nat) (p : List UInt8) : ∀ q, q < 3 → (colsR k p)[k + q]? = some (prow (wtq q) ((colsR k p).take k) 128 k) := by
  intro q hq
  rw [colsR_take, colsR, List.getElem?_append_right (by rw [chunksA_len]; omega), chunksA_len, Nat.add_sub_cancel_left]
  have h3 : q = 0 ∨ q = 1 ∨ q = 2 := by omega
  rcases h3 with rfl | rfl | rfl <;> rfl
end Go.HL
namespace Go.Proofs.YtggecdldnpildaaGreat
open Go.RowKit Go.HL
set_option maxRecDepth 100000

/-! what a rack holds -/
abbrev Pl := Int × Int
def kpl (p : Pl) : Value := .agg #[vi p.1, vi p.2]
def vsl (r : Rw) : Value := .slice r.ao r.xs.length r.cap
def ewr : Enc (Pl × Rw) := ⟨3, fun x => [vi x.1.1, vi x.1.2, .slice x.2.ao x.2.xs.length x.2.cap], fun _ => rfl, by simp [Value.oneCell'], by decide⟩
theorem eqg_pl : Tryz.prog.eqGuardType Tryz.prog.depth 103 = false := by kernel_rfl
theorem eq_pl (a b c d : Int) (w : World) : (Op.equalIn 10000 103 (.agg #[vi a, vi b]) (.agg #[vi c, vi d])).run Tryz.prog w = .ok (decide (a = c ∧ b = d)) w := by
  refine eqA_of (d := 9999) Tryz.underlying103 (by kernel_rfl) ?_
  have h3 : (decide (a = c) && (decide (b = d) && true)) = decide (a = c ∧ b = d) := by simp [Bool.decide_and]
  rw [← h3]
  refine eqf_cons rfl (part1 (cs := [vi a, vi b]) Tryz.sizeOf3 Tryz.isAgg3 rfl) (part1 (cs := [vi c, vi d]) Tryz.sizeOf3 Tryz.isAgg3 rfl) (run_equalIn_int w 9998 _ _ _ _ _ Tryz.underlying3) ?_
  refine eqf_cons rfl (part1 (cs := [vi a, vi b]) Tryz.sizeOf3 Tryz.isAgg3 rfl) (part1 (cs := [vi c, vi d]) Tryz.sizeOf3 Tryz.isAgg3 rfl) (run_equalIn_int w 9998 _ _ _ _ _ Tryz.underlying3) eqf_nil
theorem plOk : KeyOk Tryz.prog 103 kpl where
  chk em w k := by
    have h1 : ∀ a w, (Instr.checkKey em 9999 3 (vi a)).run Tryz.prog w = .ok () w := fun a w => by
      rw [Instr.checkKey]
      simp [run_underlying Tryz.underlying3]
    show (Instr.checkKey em (9999 + 1) 103 (.agg #[vi k.1, vi k.2])).run Tryz.prog w = .ok () w
    rw [Instr.checkKey]
    simp [run_underlying Tryz.underlying103, part, Tryz.sizeOf3, Tryz.isAgg3, h1]
  eq w k k' := by
    show (Op.equalIn 10000 103 (.agg #[vi k.1, vi k.2]) (.agg #[vi k'.1, vi k'.2])).run Tryz.prog w = .ok (decide (k = k')) w
    rw [eq_pl, decide_eq_decide.2 (Prod.ext_iff (x := k) (y := k')).symm]
  st := ⟨_, Tryz.underlying103⟩
  same k := by
    show Instr.sameBits (9999 + 1) (.agg #[vi k.1, vi k.2]) (.agg #[vi k.1, vi k.2]) = true
    rw [Instr.sameBits]
    simp [Instr.sameBits]
structure RA where
  dn : Nat
  sn : Nat
  last : List (Pl × List UInt8)
  gone : List Bool
  waits : List (Pl × List UInt8)
  off : Bool
  armed : Bool
  left : Int
def xsm (l : List (Pl × Rw)) : List (Pl × List UInt8) := l.map fun p => (p.1, p.2.xs)
structure RA.ok (s : RA) : Prop where
  dn : 1 ≤ s.dn ∧ s.dn ≤ 16
  sn : 1 ≤ s.sn ∧ s.sn ≤ 2000
  gl : s.gone.length = s.dn
  ll : ∀ p ∈ s.last, p.2.length = 128
  lw : ∀ p ∈ s.waits, p.2.length = 128
  lf : (s.armed = true → 0 ≤ s.left) ∧ -9223372036854775808 ≤ s.left ∧ s.left ≤ 9223372036854775807
  nd : (s.last.map (·.1)).Nodup
abbrev rcells (s : RA) (m : Nat) (ga : Option Addr) (gc : Nat) (wa : Option Addr) (wc n : Nat) : List Value := [vi s.dn, vi s.sn, .map (some m), .slice ga s.gone.length gc, .slice wa n wc, .bool s.off, .bool s.armed, vi s.left]
/-- all but the rack's own block -/
structure RI (S : Nat → Prop) (w : World) (m : Nat) (ga : Option Addr) (gc : Nat) (wa : Option Addr) (wc : Nat) (gl : List Bool) (ws ls : List (Pl × Rw)) : Prop where
  sm : S m
  map : Mp kpl vsl w m ls
  gone : Row S w 4 ebool ga gc gl
  waits : Row S w 105 ewr wa wc ws
  byl : ∀ p ∈ ls, Row S w 5 eb p.2.ao p.2.cap p.2.xs
  byw : ∀ p ∈ ws, Row S w 5 eb p.2.ao p.2.cap p.2.xs
section
variable {S M : Nat → Prop} {w w' : World} {m : Nat} {ga : Option Addr} {gc : Nat} {wa : Option Addr} {wc : Nat} {gl : List Bool} {ws ls : List (Pl × Rw)}
theorem RI.chg (h : RI S w m ga gc wa wc gl ws ls) (k : Chg M w w') (hd : ∀ b, b < w.heap.size → S b → M b → False) : RI S w' m ga gc wa wc gl ws ls :=
  ⟨h.sm, h.map.chg k (fun hm => hd m h.map.lt h.sm hm), h.gone.chg k hd, h.waits.chg k hd, fun p hp => (h.byl p hp).chg k hd, fun p hp => (h.byw p hp).chg k hd⟩
theorem RI.pure (h : RI S w m ga gc wa wc gl ws ls) (k : Chg Nob w w') : RI S w' m ga gc wa wc gl ws ls := h.chg k (fun _ _ _ x => x)
theorem RI.mono {S' : Nat → Prop} (h : RI S w m ga gc wa wc gl ws ls) (k : ∀ b, S b → S' b) : RI S' w m ga gc wa wc gl ws ls :=
  ⟨k _ h.sm, h.map, h.gone.mono k, h.waits.mono k, fun p hp => (h.byl p hp).mono k, fun p hp => (h.byw p hp).mono k⟩
/-- no part of it is the rack's own block -/
theorem RI.open {R : Nat} {cs : List Value} (h : RI S w m ga gc wa wc gl ws ls) (hB : Blk w R 79 cs) : RI (fun b => S b ∧ b ≠ R) w m ga gc wa wc gl ws ls := by
  have hk := hB.kb
  refine ⟨⟨h.sm, fun e => ?_⟩, h.map, h.gone.kb.mono ?_, h.waits.kb.mono ?_, fun p hp => (h.byl p hp).kb.mono ?_, fun p hp => (h.byw p hp).kb.mono ?_⟩
  · have := h.map.kb
    rw [e, hk] at this
    simp at this
  all_goals
    rintro b ⟨h1, h2⟩
    refine ⟨h1, fun e => ?_⟩
    rw [e, hk] at h2
    exact absurd h2 (by decide)
/-- the map alone has turned -/
theorem RI.putMap {ls2 : List (Pl × Rw)} (h : RI S w m ga gc wa wc gl ws ls) (hM : Mp kpl vsl w' m ls2) (k : Chg (· = m) w w') (hn : ∀ p ∈ ls2, (∃ q ∈ ls, q.2 = p.2) ∨ (∃ q ∈ ws, q.2 = p.2)) : RI S w' m ga gc wa wc gl ws ls2 := by
  have hk := h.map.kb
  have hd : ∀ T b, b < w.heap.size → b = m → kb w b ≠ some (some T) := by
    rintro T b _ rfl
    rw [hk]
    simp
  have hb : ∀ p ∈ ls2, Row S w 5 eb p.2.ao p.2.cap p.2.xs := fun p hp => by
    rcases hn p hp with ⟨q, hq, e⟩ | ⟨q, hq, e⟩
    · rw [← e]; exact h.byl q hq
    · rw [← e]; exact h.byw q hq
  exact ⟨h.sm, hM, h.gone.chgK k (hd _), h.waits.chgK k (hd _), fun p hp => (hb p hp).chgK k (hd _), fun p hp => (h.byw p hp).chgK k (hd _)⟩
/-- the row of the writes that wait alone has turned -/
theorem RI.setWaits {wa2 : Option Addr} {wc2 : Nat} {ws2 : List (Pl × Rw)} (h : RI S w m ga gc wa wc gl ws ls) (hW : Row S w' 105 ewr wa2 wc2 ws2) (k : Chg M w w') (hM : ∀ b, M b → Eqb wa b) (hn : ∀ p ∈ ws2, (∃ q ∈ ws, q.2 = p.2) ∨ Row S w 5 eb p.2.ao p.2.cap p.2.xs) : RI S w' m ga gc wa2 wc2 gl ws2 ls := by
  have hd : ∀ b, b < w.heap.size → M b → kb w b = some (some 105) := fun b _ hm => h.waits.kb.at_.eqb (hM b hm) |>.2
  have hb : ∀ p ∈ ws2, Row S w 5 eb p.2.ao p.2.cap p.2.xs := fun p hp => by
    rcases hn p hp with ⟨q, hq, e⟩ | h1
    · rw [← e]; exact h.byw q hq
    · exact h1
  refine ⟨h.sm, h.map.chg k (fun hm => ?_), h.gone.chgK k (fun b h1 h2 => ?_), hW, fun p hp => (h.byl p hp).chgK k (fun b h1 h2 => ?_), fun p hp => (hb p hp).chgK k (fun b h1 h2 => ?_)⟩
  · have h1 := hd m h.map.lt hm
    rw [h.map.kb] at h1
    simp at h1
  all_goals
    rw [hd b h1 h2]
    decide
/-- the row of the drives that are gone alone has turned -/
theorem RI.setGone {gl2 : List Bool} {g : Nat} (h : RI S w m (some ⟨g, 0, none⟩) gc wa wc gl ws ls) (hG : Row S w' 4 ebool (some ⟨g, 0, none⟩) gc gl2) (k : Chg (· = g) w w') : RI S w' m (some ⟨g, 0, none⟩) gc wa wc gl2 ws ls := by
  have hk : kb w g = some (some 4) := (h.gone.kb.at_ _ rfl).2
  have hd : ∀ T, T ≠ 4 → ∀ b, b < w.heap.size → b = g → kb w b ≠ some (some T) := by
    rintro T hT b _ rfl e
    rw [hk] at e
    injection e with e
    injection e with e
    exact hT e.symm
  refine ⟨h.sm, h.map.chg k (fun hm => ?_), hG, h.waits.chgK k (hd _ (by decide)), fun p hp => (h.byl p hp).chgK k (hd _ (by decide)), fun p hp => (h.byw p hp).chgK k (hd _ (by decide))⟩
  have h1 := h.map.kb
  rw [show m = g from hm, hk] at h1
  simp at h1
end
/-- a rack -/
structure RK (A : Nat → Prop) (w : World) (R : Nat) (s : RA) : Prop where
  aR : A R
  ok : s.ok
  ex : ∃ (m : Nat) (ga : Option Addr) (gc : Nat) (wa : Option Addr) (wc : Nat) (ws ls : List (Pl × Rw)), Blk w R 79 (rcells s m ga gc wa wc ws.length) ∧ RI A w m ga gc wa wc s.gone ws ls ∧ s.last = xsm ls ∧ s.waits = xsm ws
theorem RK.chg {A M : Nat → Prop} {w w' : World} {R : Nat} {s : RA} (h : RK A w R s) (k : Chg M w w') (hd : ∀ b, b < w.heap.size → A b → M b → False) : RK A w' R s := by
  obtain ⟨m, ga, gc, wa, wc, ws, ls, hB, hI, hl⟩ := h.ex
  exact ⟨h.aR, h.ok, m, ga, gc, wa, wc, ws, ls, hB.chg k (fun hm => hd R hB.lt h.aR hm), hI.chg k hd, hl⟩
theorem RK.pure {A : Nat → Prop} {w w' : World} {R : Nat} {s : RA} (h : RK A w R s) (k : Chg Nob w w') : RK A w' R s := h.chg k (fun _ _ _ x => x)
theorem RK.mono {A A' : Nat → Prop} {w : World} {R : Nat} {s : RA} (h : RK A w R s) (k : ∀ b, A b → A' b) : RK A' w R s := by
  obtain ⟨m, ga, gc, wa, wc, ws, ls, hB, hI, hl⟩ := h.ex
  exact ⟨k _ h.aR, h.ok, m, ga, gc, wa, wc, ws, ls, hB, hI.mono k, hl⟩
abbrev ptr (g : Nat) : Value := .pointer (some ⟨g, 0, none⟩)
/-! asking for a drive, for a sector -/
theorem is_calls {A : Nat → Prop} {w : World} {R : Nat} {s : RA} (h : RK A w R s) (d : Int) : Calls Tryz.prog 43 [ptr R, vi d].toArray w (Ret fun v w' => v = .bool (decide (0 ≤ d ∧ d < s.dn)) ∧ Chg Nob w w') := by
  obtain ⟨m, ga, gc, wa, wc, ws, ls, hB, -⟩ := h.ex
  have hw := Chg.refl Nob w
  refine Calls.of_WC Tryz.func43 rfl Tryz.ntmps43 (by simp) ?_
  refine WC.seq (WC.region (WL.assign rfl rfl (WL.nil (WX.then_normal (WC.seq (WC.region (WL.move rfl rfl (?_))))))))
  refine WL.ptrSome Tryz.underlying27 rfl rfl rfl ?_
  refine WL.move rfl rfl (WL.want rfl rfl rfl (WL.move rfl rfl (WL.want rfl rfl rfl (?_))))
  refine WL.geq? rfl rfl rfl (fun h9 => ?_) (fun h9 => ?_)
  ·
    refine WL.pickT rfl rfl rfl (WL.move rfl rfl (WL.want rfl rfl rfl (WL.move rfl rfl (WL.want rfl rfl rfl (WL.move rfl rfl (WL.want rfl rfl rfl (WL.nilCheck rfl rfl (?_))))))))
    refine WL.want rfl rfl rfl (WL.fieldAddr (fld_79_0) rfl rfl (WL.want rfl rfl rfl (WL.loadB Tryz.isAgg3 hB rfl rfl rfl (WL.want rfl rfl rfl (WL.lss rfl rfl rfl (WL.pickT rfl rfl rfl (WL.assign rfl rfl (?_))))))))
    refine WL.nil (WX.then_normal (WC.ret (?_)))
    refine WX.ret1 (.inl rfl) Tryz.results43 rfl ?_
    refine ⟨_, rfl, ?_, hw⟩
    congr 1
    simp
    omega
  ·
    refine WL.pickT rfl rfl rfl (WL.move rfl rfl (WL.pass rfl rfl rfl rfl (WL.pass rfl rfl rfl rfl (WL.pass rfl rfl rfl rfl (WL.pass rfl rfl rfl rfl (WL.pass rfl rfl rfl rfl (WL.pass rfl rfl rfl rfl (?_))))))))
    refine WL.pickF rfl rfl rfl (WL.assign rfl rfl (WL.nil (WX.then_normal (WC.ret (?_)))))
    refine WX.ret1 (.inl rfl) Tryz.results43 rfl ?_
    refine ⟨_, rfl, ?_, hw⟩
    congr 1
    simp
    omega
theorem in_calls {A : Nat → Prop} {w : World} {R : Nat} {s : RA} (h : RK A w R s) (d a : Int) : Calls Tryz.prog 56 [ptr R, vi d, vi a].toArray w (Ret fun v w' => v = .bool (decide (0 ≤ d ∧ d < s.dn ∧ 0 ≤ a ∧ a < s.sn)) ∧ Chg Nob w w') := by
  have hw := Chg.refl Nob w
  refine Calls.of_WC Tryz.func56 rfl Tryz.ntmps56 (by simp) ?_
  refine WC.seq (WC.region (WL.assign rfl rfl (WL.nil (WX.then_normal (WC.seq (WC.region (WL.move rfl rfl (?_))))))))
  refine WL.move rfl rfl (?_)
  refine WL.call eg_43 rfl rfl (is_calls h d) ?_
  rintro v w1 ⟨rfl, k1⟩
  have zs_k1 := k1.size
  replace h := h.pure k1
  replace hw := hw.pure k1
  obtain ⟨m, ga, gc, wa, wc, ws, ls, hB, -⟩ := h.ex
  by_cases h9 : 0 ≤ d ∧ d < s.dn
  ·
    rw [decide_eq_true h9]
    refine WL.move rfl rfl (WL.want rfl rfl rfl (WL.move rfl rfl (WL.want rfl rfl rfl (?_))))
    refine WL.geq? rfl rfl rfl (fun h12 => ?_) (fun h12 => ?_)
    ·
      refine WL.pickT rfl rfl rfl (WL.move rfl rfl (WL.want rfl rfl rfl (WL.move rfl rfl (WL.want rfl rfl rfl (WL.move rfl rfl (WL.want rfl rfl rfl (WL.nilCheck rfl rfl (?_))))))))
      refine WL.want rfl rfl rfl (WL.fieldAddr (fld_79_1) rfl rfl (WL.want rfl rfl rfl (WL.loadB Tryz.isAgg3 hB rfl rfl rfl (WL.want rfl rfl rfl (WL.lss rfl rfl rfl (WL.pickT rfl rfl rfl (WL.assign rfl rfl (?_))))))))
      refine WL.nil (WX.then_normal (WC.ret (?_)))
      refine WX.ret1 (.inl rfl) Tryz.results56 rfl ?_
      refine ⟨_, rfl, ?_, hw⟩
      congr 1
      simp [h9.1, h9.2, h12]; done
    ·
      refine WL.pickT rfl rfl rfl (WL.move rfl rfl (WL.pass rfl rfl rfl rfl (WL.pass rfl rfl rfl rfl (WL.pass rfl rfl rfl rfl (WL.pass rfl rfl rfl rfl (WL.pass rfl rfl rfl rfl (WL.pass rfl rfl rfl rfl (?_))))))))
      refine WL.pickF rfl rfl rfl (WL.assign rfl rfl (WL.nil (WX.then_normal (WC.ret (?_)))))
      refine WX.ret1 (.inl rfl) Tryz.results56 rfl ?_
      refine ⟨_, rfl, ?_, hw⟩
      congr 1
      simp; omega
  ·
    rw [decide_eq_false h9]
    refine WL.move rfl rfl (WL.pass rfl rfl rfl rfl (WL.pass rfl rfl rfl rfl (WL.pickF rfl rfl rfl (WL.move rfl rfl (WL.pass rfl rfl rfl rfl (WL.pass rfl rfl rfl rfl (WL.pass rfl rfl rfl rfl (?_))))))))
    refine WL.pass rfl rfl rfl rfl (WL.pass rfl rfl rfl rfl (WL.pass rfl rfl rfl rfl (WL.pickF rfl rfl rfl (WL.assign rfl rfl (WL.nil (WX.then_normal (WC.ret (?_))))))))
    refine WX.ret1 (.inl rfl) Tryz.results56 rfl ?_
    refine ⟨_, rfl, ?_, hw⟩
    congr 1
    simp; omega
end Go.Proofs.YtggecdldnpildaaGreat
namespace Go.Proofs.YtggecdldnpildaaGreat
open Go.RowKit Go.HL
set_option maxRecDepth 100000

/-! the last write that waits for a sector -/
theorem newest_calls {S : Nat → Prop} {w : World} {R : Nat} {s : RA} {m : Nat} {ga : Option Addr} {gc : Nat} {wa : Option Addr} {wc : Nat} {ws : List (Pl × Rw)} (hB : Blk w R 79 (rcells s m ga gc wa wc ws.length)) (hW : Row S w 105 ewr wa wc ws) (p : Pl) :
    Calls Tryz.prog 59 [ptr R, kpl p].toArray w (Ret fun v w' => (∃ ao : Option Addr, v = .pointer ao ∧ ((ao = none ∧ ∀ x ∈ ws, x.1 ≠ p) ∨ (∃ j x g, ws[j]? = some x ∧ x.1 = p ∧ (∀ k y, j < k → ws[k]? = some y → y.1 ≠ p) ∧ wa = some ⟨g, 0, none⟩ ∧ ao = some ⟨g, 0 + j * 3, none⟩))) ∧ Chg Nob w w') := by
  replace hW := hW.lt
  have hw := Chg.refl Nob w
  have hcap := hW.own.cap
  have hws : ws.length ≤ 9223372036854775807 := by
    rcases hW.own.2.2 with ⟨_, h⟩ | ⟨_, _, _, _, _, _, h, _⟩
    · omega
    · simp only [maxLen] at h; omega
  obtain ⟨pd, pa⟩ := p
  refine Calls.of_WC Tryz.func59 rfl Tryz.ntmps59 (by simp) ?_
  refine WC.seq (WC.region (?_))
  refine WL.box rfl rfl ?_
  intro g1 w1 hge1 hlt1 hP k1
  replace hP : Blk w1 g1 103 [vi pd, vi pa] := hP
  have zs_k1 := k1.size
  replace hB := hB.pure k1
  replace hW := hW.pure k1
  replace hw := hw.pure k1
  refine WL.assign rfl rfl (WL.nil (WX.then_normal (WC.seq (WC.seq (WC.region (WL.move rfl rfl (WL.nilCheck rfl rfl (?_))))))))
  refine WL.fieldAddr (fld_79_4) rfl rfl (WL.loadB Tryz.isAgg77 hB rfl rfl rfl (WL.len Tryz.underlying77 rfl rfl (?_)))
  refine WL.sub64 rfl rfl (by constructor <;> omega) rfl ?_
  refine WL.assign rfl rfl (WL.nil (WX.then_normal (WC.block (?_))))
  refine WC.loop (σ := Nat) (fun i => [(0, ptr R), (3, ptr g1), (4, .pointer none), (5, vi ((i : Int) - 1))]) (fun i w' => i ≤ ws.length ∧ (∀ k x, i ≤ k → ws[k]? = some x → x.1 ≠ (pd, pa)) ∧ Blk w' R 79 (rcells s m ga gc wa wc ws.length) ∧ Row (fun b => S b ∧ b < w.heap.size) w' 105 ewr wa wc ws ∧ Blk w' g1 103 [vi pd, vi pa] ∧ Chg Nob w w') (fun i => i) ws.length ⟨rfl, rfl, rfl, rfl, trivial⟩ ⟨Nat.le_refl _, fun k x hk hx => by have := (List.getElem?_eq_some_iff.1 hx).1; omega, hB, hW, hP, hw⟩ ?_
  clear hB hW hP hw
  rintro i w1 ⟨hi, hno, hB, hW, hP, hw⟩
  refine WC.seq (WC.seq (WC.region (WL.move rfl rfl (?_))))
  refine WL.geq? rfl rfl rfl (fun h13 => ?_) (fun h13 => ?_)
  ·
    refine WL.nil (WX.then_normal (WC.cond_true rfl (WC.skip (WX.then_normal (WC.seq (WC.block (WC.seq (?_))))))))
    obtain ⟨j, rfl⟩ : ∃ j, i = j + 1 := ⟨i - 1, by omega⟩
    have hx : ws[j]? = some ws[j] := List.getElem?_eq_getElem (by omega)
    obtain ⟨x, ex⟩ : ∃ x, x = ws[j] := ⟨_, rfl⟩
    rw [← ex] at hx
    obtain ⟨g, rfl⟩ := hW.place0 (j := j) (by omega)
    refine WC.draw (Nob) [0, 1, 2, 3, 4, 5, 6, 7, 8, 9] [] mixed rfl rfl (fun wd_1 kd_1 zd_1 => ?_)
    have zs_kd_1 := kd_1.size
    replace hB := hB.pure kd_1
    replace hW := hW.pure kd_1
    replace hw := hw.pure kd_1
    replace hP := hP.pure kd_1
    apply DQ.step (E' := [(0, _)])
    case ho => rfl
    case hs => exact ⟨rfl, trivial⟩
    case hk => rfl
    case h1 =>
      intro wq_2 kq_2
      refine WL.move rfl rfl (?_)
      refine WL.nil ?_
      exact WX.one ⟨rfl, by exact Chg.refl _ _⟩
    apply DQ.step (E' := [(16, _)])
    case ho => rfl
    case hs => exact ⟨rfl, trivial⟩
    case hk => rfl
    case h1 =>
      intro wq_3 kq_3
      refine WL.nilCheck rfl rfl (?_)
      refine WL.nil ?_
      exact WX.one ⟨rfl, by exact Chg.refl _ _⟩
    apply DQ.step (E' := [(17, _)])
    case ho => rfl
    case hs => exact ⟨rfl, trivial⟩
    case hk => rfl
    case h1 =>
      intro wq_4 kq_4
      refine WL.fieldAddr (fld_79_4) rfl rfl (?_)
      refine WL.nil ?_
      exact WX.one ⟨rfl, by exact Chg.refl _ _⟩
    apply DQ.step (E' := [(18, _)])
    case ho => rfl
    case hs => exact ⟨rfl, trivial⟩
    case hk => rfl
    case h1 =>
      intro wq_5 kq_5
      have zs_kq_5 := kq_5.size
      replace hB := hB.pure kq_5
      replace hW := hW.pure kq_5
      replace hw := hw.pure kq_5
      replace hP := hP.pure kq_5
      refine WL.loadB Tryz.isAgg77 hB rfl rfl rfl (?_)
      refine WL.nil ?_
      exact WX.one ⟨rfl, by exact Chg.refl _ _⟩
    apply DQ.step (E' := [(5, _)])
    case ho => rfl
    case hs => exact ⟨rfl, trivial⟩
    case hk => rfl
    case h1 =>
      intro wq_6 kq_6
      refine WL.move rfl rfl (?_)
      refine WL.nil ?_
      exact WX.one ⟨rfl, by exact Chg.refl _ _⟩
    apply DQ.step (E' := [(19, _), (20, _)])
    case ho => rfl
    case hs => exact ⟨rfl, rfl, trivial⟩
    case hk => rfl
    case h1 =>
      intro wq_7 kq_7
      have zs_kq_7 := kq_7.size
      replace hB := hB.pure kq_7
      replace hW := hW.pure kq_7
      replace hw := hw.pure kq_7
      replace hP := hP.pure kq_7
      refine WL.indexC hW.rsl Tryz.underlying77 Tryz.sizeOf105 rfl rfl ⟨hx, (by omega)⟩ rfl ?_
      refine WL.nil ?_
      exact WX.one ⟨rfl, by exact Chg.refl _ _⟩
    apply DQ.step (E' := [(21, _)])
    case ho => rfl
    case hs => exact ⟨rfl, trivial⟩
    case hk => rfl
    case h1 =>
      intro wq_8 kq_8
      refine WL.fieldAddr (fld_105_0) rfl rfl (?_)
      refine WL.nil ?_
      exact WX.one ⟨rfl, by exact Chg.refl _ _⟩
    apply DQ.step (E' := [(22, _)])
    case ho => rfl
    case hs => exact ⟨rfl, trivial⟩
    case hk => rfl
    case h1 =>
      intro wq_9 kq_9
      have zs_kq_9 := kq_9.size
      replace hB := hB.pure kq_9
      replace hW := hW.pure kq_9
      replace hw := hw.pure kq_9
      replace hP := hP.pure kq_9
      refine WL.loads [vi x.1.1, vi x.1.2] Tryz.isAgg103 Tryz.sizeOf103 rfl (fun q v hv => ?_) rfl rfl ?_
      ·
        have h1 := hW.rsl.cellsAt hx q v
        refine h1 ?_
        obtain ⟨⟨x1, x2⟩, x3⟩ := x
        match q, hv with
        | 0, hv => exact hv
        | 1, hv => exact hv
      refine WL.nil ?_
      exact WX.one ⟨rfl, by exact Chg.refl _ _⟩
    apply DQ.step (E' := [(3, _)])
    case ho => rfl
    case hs => exact ⟨rfl, trivial⟩
    case hk => rfl
    case h1 =>
      intro wq_10 kq_10
      have zs_kq_10 := kq_10.size
      replace hB := hB.pure kq_10
      replace hW := hW.pure kq_10
      replace hw := hw.pure kq_10
      replace hP := hP.pure kq_10
      refine WL.loadsB Tryz.isAgg103 Tryz.sizeOf103 hP rfl (by simp; done) rfl (?_)
      refine WL.nil ?_
      exact WX.one ⟨rfl, by exact Chg.refl _ _⟩
    apply DQ.split (E' := [(23, _), (24, _)])
    case ho => rfl
    case hs => exact ⟨rfl, rfl, trivial⟩
    case hk => rfl
    case h1 =>
      intro wq_11 kq_11
      refine WL.aeql eqg_pl (eq_pl _ _ _ _) rfl rfl rfl ?_
      refine WL.nil ?_
      exact WX.one ⟨rfl, by exact Chg.refl _ _⟩
    case ht =>
      intro h25
      replace h25 := of_decide_eq_true h25
      refine DQ.done (fun _ => ?_)
      refine DL.done (fun we_12 ke_12 => ?_)
      have zs_ke_12 := ke_12.size
      replace hB := hB.pure ke_12
      replace hW := hW.pure ke_12
      replace hw := hw.pure ke_12
      replace hP := hP.pure ke_12
      refine WX.then_normal (WC.cond_true rfl (WC.seq (WC.region (WL.move rfl rfl (WL.nilCheck rfl rfl (WL.fieldAddr (fld_79_4) rfl rfl (WL.loadB Tryz.isAgg77 hB rfl rfl rfl (?_))))))))
      refine WL.move rfl rfl (?_)
      refine WL.indexC hW.rsl Tryz.underlying77 Tryz.sizeOf105 rfl rfl ⟨hx, by omega⟩ rfl ?_
      refine WL.assign rfl rfl (WL.nil (WX.then_normal (WC.ret (WX.block_ret (WX.then_ret (WX.then_ret (WX.block_ret (?_))))))))
      refine WX.then_ret (?_)
      refine WX.ret1 (.inl rfl) Tryz.results59 rfl ?_
      refine ⟨_, rfl, ?_, hw⟩
      first
        | exact ⟨_, rfl, .inr ⟨j, x, g, hx, Prod.ext h25.1 h25.2, fun k y hk hy => hno k y (by omega) hy, rfl, rfl⟩⟩
        | exact ⟨_, rfl, .inl ⟨rfl, fun x hx => by
            obtain ⟨k, hk, rfl⟩ := List.getElem_of_mem hx
            exact hno k _ (by omega) (List.getElem?_eq_getElem hk)⟩⟩
    case hf =>
      intro h25
      replace h25 := of_decide_eq_false h25
      refine DQ.done (fun _ => ?_)
      refine DL.done (fun we_12 ke_12 => ?_)
      have zs_ke_12 := ke_12.size
      replace hB := hB.pure ke_12
      replace hW := hW.pure ke_12
      replace hw := hw.pure ke_12
      replace hP := hP.pure ke_12
      refine WX.then_normal (WC.cond_false rfl (WC.skip (WX.block_normal (WX.then_normal (WC.region (WL.move rfl rfl (WL.sub64 rfl rfl (by omega) rfl (?_))))))))
      refine WL.assign rfl rfl (WL.nil (?_))
      refine WX.loop_next j ⟨rfl, rfl, rfl, by simp [List.lookup, ev]; try omega, trivial⟩ ⟨by omega, ?_, hB, hW, hP, hw⟩ (by omega)
      intro k y hk hy
      rcases Nat.lt_or_ge j k with h1 | h1
      ·
        exact hno k y (by omega) hy
      ·
        have : k = j := by omega
        subst this
        rw [hx] at hy
        injection hy with hy
        subst hy
        intro e
        rw [e] at h25
        exact h25 ⟨rfl, rfl⟩
  ·
    refine WL.nil (WX.then_normal (WC.cond_false rfl (WC.exit (WX.then_exit (WX.then_exit (WX.block_here (WX.then_normal (?_))))))))
    refine WC.seq (WC.region (WL.assign rfl rfl (WL.nil (WX.then_normal (WC.ret (?_))))))
    refine WX.ret1 (.inl rfl) Tryz.results59 rfl ?_
    refine ⟨_, rfl, ?_, hw⟩
    first
      | exact ⟨_, rfl, .inr ⟨j, x, g, hx, Prod.ext h25.1 h25.2, fun k y hk hy => hno k y (by omega) hy, rfl, rfl⟩⟩
      | exact ⟨_, rfl, .inl ⟨rfl, fun x hx => by
          obtain ⟨k, hk, rfl⟩ := List.getElem_of_mem hx
          exact hno k _ (by omega) (List.getElem?_eq_getElem hk)⟩⟩
end Go.Proofs.YtggecdldnpildaaGreat
