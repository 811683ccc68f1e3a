import Derived.Test.YtjdbjdgobhjbkaaQParityApart5
namespace Go.Proofs.Ytjdbjdgobhjbkaa
open Go.RowKit Go.HL

/-! rows joined; a row times an element; a row plus a multiple of another -/
theorem grow_calls {w : World} (n : Nat) (hn : 1 ≤ n ∧ n ≤ 100000) : Calls Try.prog 46 [.slice none 0 0, vi (n : Int)].toArray w (Ret fun v w' => (∃ g c, v = .slice (some ⟨g, 0, none⟩) 0 c ∧ Row (fun b => b = g) w' 5 eb (some ⟨g, 0, none⟩) c [] ∧ w.heap.size ≤ g) ∧ Chg Nob w w') := by
  have hw := Chg.refl Nob w
  refine Calls.of_WC Try.func46 rfl Try.ntmps46 (by simp) ?_
  refine WC.seq (WC.region (WL.assign rfl rfl (WL.nil (WX.then_normal (WC.seq (WC.seq (WC.region (?_))))))))
  refine WL.move rfl rfl (?_)
  refine WL.lssF rfl rfl rfl (by first | rfl | omega | decide) ?_
  refine WL.nil (WX.then_normal (WC.cond_false rfl (WC.skip (WX.then_normal (WC.seq (WC.seq (WC.region (?_))))))))
  refine WL.move rfl rfl (WL.move rfl rfl (?_))
  refine WL.cap Try.underlying23 rfl rfl ?_
  refine WL.move rfl rfl (WL.len Try.underlying23 rfl rfl (WL.sub64 rfl rfl (by first | omega | (constructor <;> omega)) rfl (WL.sub64 rfl rfl (by first | omega | (constructor <;> omega)) rfl (WL.assign rfl rfl (WL.nil (WX.then_normal (WC.seq (?_))))))))
  refine WC.region (WL.move rfl rfl (?_))
  refine WL.gtrT rfl rfl rfl (by first | rfl | omega | decide) ?_
  refine WL.nil (WX.then_normal (WC.cond_true rfl (WC.region (WL.move rfl rfl (WL.move rfl rfl (?_))))))
  refine WL.cap Try.underlying23 rfl rfl ?_
  refine WL.sliceN (l := 0) (h := 0) (k := .i64) Try.underlying23 Try.sizeOf5 rfl (.inr ⟨rfl, rfl⟩) (.inl ⟨rfl, Nat.le_refl _⟩) (Nat.le_refl _) rfl ?_
  refine WL.move rfl rfl (?_)
  refine WL.appendZ (e := eb) (n := n) info_5 rfl Try.underlying23 Try.underlying3 rfl (by show some (vi ((n : Int) - (((0 : Nat) : Int) - ((0 : Nat) : Int)))) = some (vi (n : Int)); rw [show (n : Int) - (((0 : Nat) : Int) - ((0 : Nat) : Int)) = (n : Int) by omega]) ⟨by omega, by omega, by omega⟩ rfl ?_
  intro g c w3 hr hc k3 eg
  have zs_k3 := k3.size
  replace hw := hw.pure k3
  refine WL.move rfl rfl (WL.len Try.underlying23 rfl rfl (?_))
  refine WL.sliceN (l := 0) (h := 0) (k := .i64) Try.underlying23 Try.sizeOf5 rfl (.inr ⟨rfl, rfl⟩) (.inl ⟨rfl, Nat.zero_le _⟩) (Nat.le_refl _) rfl ?_
  refine WL.assign rfl rfl (WL.nil (WX.then_normal (WC.seq (WC.region (WL.move rfl rfl (WL.assign rfl rfl (WL.nil (?_))))))))
  refine WX.then_normal (WC.ret (?_))
  refine WX.ret1 (.inl rfl) Try.results46 rfl ?_
  refine ⟨_, rfl, ⟨g, c, ?_, hr, by have := hw.size; omega⟩, hw⟩
  have e1 : cutAt (some (⟨g, 0, none⟩ : Addr)) c 0 1 = some ⟨g, 0, none⟩ := by unfold cutAt; split <;> simp [Addr.add_lit]
  simp [e1]
theorem concat_calls {S : Nat → Prop} {w : World} {ao : Option Addr} {c : Nat} {r1 r2 : Rw} (h : RS S w ao c [r1, r2]) (h1 : 1 ≤ r1.xs.length ∧ r1.xs.length ≤ 10000) (h2 : r2.xs.length ≤ 10000) :
    Calls Try.prog 28 [.slice ao 2 c].toArray w (Ret fun v w' => (∃ g c2, v = .slice (some ⟨g, 0, none⟩) (r1.xs ++ r2.xs).length c2 ∧ Row (fun b => b = g) w' 5 eb (some ⟨g, 0, none⟩) c2 (r1.xs ++ r2.xs) ∧ w.heap.size ≤ g) ∧ Chg Nob w w') := by
  have hw := Chg.refl Nob w
  replace h := h.old
  obtain ⟨sm, hsm⟩ : ∃ sm : Nat → Nat, sm = fun i => if i = 0 then 0 else if i = 1 then r1.xs.length else r1.xs.length + r2.xs.length := ⟨_, rfl⟩
  obtain ⟨jn, hjn⟩ : ∃ jn : Nat → List UInt8, jn = fun i => if i = 0 then [] else if i = 1 then r1.xs else r1.xs ++ r2.xs := ⟨_, rfl⟩
  have hs0 : sm 0 = 0 := by rw [hsm]; rfl
  have hs2 : sm 2 = r1.xs.length + r2.xs.length := by rw [hsm]; rfl
  have hst : ∀ i r, i < 2 → [r1, r2][i]? = some r → sm (i + 1) = sm i + r.xs.length ∧ r.xs.length ≤ 10000 ∧ sm i ≤ 10000 ∧ jn (i + 1) = jn i ++ r.xs ∧ (jn i).length ≤ 10000 ∧ 1 ≤ (jn i ++ r.xs).length := fun i r hi hr => by
    have h3 : i = 0 ∨ i = 1 := by omega
    rcases h3 with rfl | rfl
    · injection hr with hr
      subst hr
      rw [hsm, hjn]
      exact ⟨by simp, by omega, by simp, by simp, by simp, by simp; omega⟩
    · injection hr with hr
      subst hr
      rw [hsm, hjn]
      exact ⟨by simp, by omega, by simp; omega, by simp, by simp; omega, by simp; omega⟩
  refine Calls.of_WC Try.func28 rfl Try.ntmps28 (by simp) ?_
  refine WC.seq (WC.region (WL.assign rfl rfl (WL.nil (WX.then_normal (WC.seq (WC.region (WL.assign rfl rfl (?_))))))))
  refine WL.nil (WX.then_normal (WC.seq (WC.seq (WC.region (WL.move rfl rfl (WL.len Try.underlying22 rfl rfl (WL.move rfl rfl (?_))))))))
  refine WL.nil (WX.then_normal (WC.block (?_)))
  refine WC.loop (σ := Nat) (fun i => [(0, .slice ao 2 c), (3, vi (sm i : Int)), (9, .slice ao 2 c), (10, vi 2), (11, vi (i : Int))]) (fun i w' => i ≤ 2 ∧ RS (· < w.heap.size) w' ao c [r1, r2] ∧ Chg Nob w w') (fun i => 2 - i) 0 ⟨rfl, by rw [hs0]; rfl, rfl, rfl, rfl, trivial⟩ ⟨Nat.zero_le _, h, hw⟩ ?_
  clear h hw
  rintro i w1 ⟨hi, h, hw⟩
  refine WC.seq (WC.region (?_))
  refine WL.lss? rfl rfl rfl (fun h12 => ?_) (fun h12 => ?_)
  ·
    refine WL.nil (WX.then_normal (WC.seq (WC.cond_true rfl (WC.skip (WX.then_normal (WC.seq (WC.block (?_))))))))
    refine WC.seq (WC.region (?_))
    obtain ⟨r, hr⟩ : ∃ r, [r1, r2][i]? = some r := ⟨_, List.getElem?_eq_getElem (by simp; omega)⟩
    obtain ⟨e1, e2, e3, -, -, -⟩ := hst i r (by omega) hr
    refine WL.indexT (e := erow) Try.underlying22 Try.sizeOf23 h.outer rfl rfl ⟨hr, rfl⟩ rfl ?_
    intro bb oo hcc
    refine WL.load Try.isAgg23 rfl (hcc 0 _ rfl) rfl ?_
    refine WL.assign rfl rfl (WL.nil (WX.then_normal (WC.seq (WC.region (WL.move rfl rfl (WL.move rfl rfl (WL.len Try.underlying23 rfl rfl (?_))))))))
    refine WL.add64 rfl rfl (by first | omega | (constructor <;> omega)) rfl (WL.assign rfl rfl (WL.nil (WX.then_normal (WC.seq (WC.region (WL.move rfl rfl (?_)))))))
    refine WL.lssF rfl rfl rfl (by first | rfl | omega | decide) ?_
    refine WL.nil (WX.then_normal (WC.cond_false rfl (WC.skip (WX.block_normal (WX.then_normal (WC.region (WL.add64 rfl rfl (by first | omega | (constructor <;> omega)) rfl (?_))))))))
    refine WL.move rfl rfl (WL.nil (?_))
    first
      | exact WX.loop_next (i + 1) ⟨rfl, by simp [List.lookup, ev, e1], rfl, rfl, rfl, trivial⟩ ⟨by omega, h, hw⟩ (by omega)
      | exact WX.loop_next (i + 1, g2, c2) ⟨rfl, by rw [e4]; rfl, rfl, rfl, rfl, trivial⟩ ⟨by show i + 1 ≤ 2; omega, h, by show Row _ _ _ _ _ _ (jn (i + 1)); rw [e4]; exact hg3, hge2, hw⟩ (by show 2 - (i + 1) < 2 - i; omega)
  ·
    refine WL.nil (WX.then_normal (WC.seq (WC.cond_false rfl (WC.exit (WX.then_exit (WX.then_exit (WX.block_here (?_))))))))
    refine WX.then_normal (WC.seq (WC.region (WL.move rfl rfl (?_))))
    have hi2 : i = 2 := by omega
    subst hi2
    rw [hs2]
    have zw1 := hw.size
    refine WL.call eg_46 rfl rfl (grow_calls (r1.xs.length + r2.xs.length) ⟨by omega, by omega⟩) ?_
    rintro v w2 ⟨⟨g, cg, rfl, hg, hge⟩, k2⟩
    have zs_k2 := k2.size
    replace h := h.pure k2
    replace hw := hw.pure k2
    refine WL.assign rfl rfl (WL.nil (WX.then_normal (WC.seq (WC.seq (WC.region (WL.move rfl rfl (WL.len Try.underlying22 rfl rfl (?_))))))))
    refine WL.move rfl rfl (WL.nil (WX.then_normal (WC.block (?_))))
    have hj0 : jn 0 = [] := by rw [hjn]; rfl
    refine WC.loop (σ := Nat × Nat × Nat) (fun q => [(0, .slice ao 2 c), (6, .slice (some ⟨q.2.1, 0, none⟩) (jn q.1).length q.2.2), (25, .slice ao 2 c), (26, vi 2), (27, vi (q.1 : Int))]) (fun q w' => q.1 ≤ 2 ∧ RS (· < w.heap.size) w' ao c [r1, r2] ∧ Row (fun b => b = q.2.1) w' 5 eb (some ⟨q.2.1, 0, none⟩) q.2.2 (jn q.1) ∧ w.heap.size ≤ q.2.1 ∧ Chg Nob w w') (fun q => 2 - q.1) (0, g, cg) ⟨rfl, by rw [hj0]; rfl, rfl, rfl, rfl, trivial⟩ ⟨Nat.zero_le _, h, by rw [hj0]; exact hg, by show w.heap.size ≤ g; have := hw.size; omega, hw⟩ ?_
    clear h hw hg
    rintro ⟨i, g, cg⟩ w1 ⟨hi, h, hg, hge, hw⟩
    simp only at hi hg hge
    dsimp only
    refine WC.seq (WC.region (?_))
    refine WL.lss? rfl rfl rfl (fun h28 => ?_) (fun h28 => ?_)
    ·
      refine WL.nil (WX.then_normal (WC.seq (WC.cond_true rfl (WC.skip (WX.then_normal (WC.seq (WC.block (?_))))))))
      refine WC.seq (WC.region (?_))
      obtain ⟨r, hr⟩ : ∃ r, [r1, r2][i]? = some r := ⟨_, List.getElem?_eq_getElem (by simp; omega)⟩
      obtain ⟨-, e2, -, e4, e5, e6⟩ := hst i r (by omega) hr
      refine WL.indexT (e := erow) Try.underlying22 Try.sizeOf23 h.outer rfl rfl ⟨hr, rfl⟩ rfl ?_
      intro bb oo hcc
      refine WL.load Try.isAgg23 rfl (hcc 0 _ rfl) rfl ?_
      refine WL.assign rfl rfl (WL.nil (WX.then_normal (WC.region (WL.move rfl rfl (WL.move rfl rfl (?_))))))
      refine WL.append (e := eb) info_5 rfl Try.underlying23 rfl rfl (hg.mono (S' := fun b => w.heap.size ≤ b) (fun b hb => by have : b = g := hb; omega)) ((h.at hr).src Try.underlying23) (by constructor <;> omega) (fun b hb => by have := hw.size; omega) rfl ?_
      intro a2 c2 w5 hg2 gg nn
      replace h := h.chg gg.chg (fun b _ h2 h3 => by have := h3.2; omega)
      replace hw := hw.chg gg.chg (fun b h2 h3 => by have := h3.2; omega)
      obtain ⟨g2, rfl⟩ : ∃ g2, a2 = some ⟨g2, 0, none⟩ := by
        rcases gg.fr with e | e
        ·
          exact ⟨g, e⟩
        ·
          rcases hg2.own.2.2 with ⟨rfl, hc0⟩ | ⟨g2, _, _, rfl, _⟩
          ·
            rw [nn rfl] at e6
            exact absurd e6 (by decide)
          ·
            exact ⟨g2, rfl⟩
      have hg3 : Row (fun b => b = g2) _ 5 eb (some ⟨g2, 0, none⟩) c2 (jn i ++ r.xs) := ⟨fun a ea => by injection ea with ea; rw [← ea], hg2.own⟩
      have hge2 : w.heap.size ≤ g2 := hg2.at_ _ rfl
      refine WL.assign rfl rfl (WL.nil (WX.block_normal (WX.then_normal (WC.region (WL.add64 rfl rfl (by first | omega | (constructor <;> omega)) rfl (WL.move rfl rfl (WL.nil (?_))))))))
      first
        | exact WX.loop_next (i + 1) ⟨rfl, by simp [List.lookup, ev, e1], rfl, rfl, rfl, trivial⟩ ⟨by omega, h, hw⟩ (by omega)
        | exact WX.loop_next (i + 1, g2, c2) ⟨rfl, by rw [e4]; rfl, rfl, rfl, rfl, trivial⟩ ⟨by show i + 1 ≤ 2; omega, h, by show Row _ _ _ _ _ _ (jn (i + 1)); rw [e4]; exact hg3, hge2, hw⟩ (by show 2 - (i + 1) < 2 - i; omega)
    ·
      refine WL.nil (WX.then_normal (WC.seq (WC.cond_false rfl (WC.exit (WX.then_exit (WX.then_exit (WX.block_here (?_))))))))
      refine WX.then_normal (WC.seq (WC.region (WL.move rfl rfl (WL.assign rfl rfl (WL.nil (WX.then_normal (WC.ret (?_))))))))
      refine WX.ret1 (.inl rfl) Try.results28 rfl ?_
      have hi2 : i = 2 := by omega
      subst hi2
      have e2 : jn 2 = r1.xs ++ r2.xs := by rw [hjn]; rfl
      rw [e2] at hg ⊢
      exact ⟨_, rfl, ⟨g, cg, rfl, hg, hge⟩, hw⟩
theorem scale_calls {w : World} {gf g c : Nat} {xs : List UInt8} (hR : Blk w gf 65 FR) (hr : Row (fun b => b = g) w 5 eb (some ⟨g, 0, none⟩) c xs) (hne : g ≠ gf) (hl : xs.length ≤ 100000) (s : UInt8) :
    Calls Try.prog 31 [.pointer (some ⟨gf, 0, none⟩), .slice (some ⟨g, 0, none⟩) xs.length c, v8 s].toArray w (Ret fun v w' => v = .tuple #[] ∧ (∃ ys : List UInt8, ys.length = xs.length ∧ (∀ j, ys.getD j 0 = mul (xs.getD j 0) s) ∧ Row (fun b => b = g) w' 5 eb (some ⟨g, 0, none⟩) c ys) ∧ Chg (fun b => b = g) w w') := by
  have hw := Chg.refl (fun b => b = g) w
  refine Calls.of_WC Try.func31 rfl Try.ntmps31 (by simp) ?_
  refine WC.seq (WC.region (WL.move rfl rfl (WL.len Try.underlying23 rfl rfl (WL.move rfl rfl (WL.nil (WX.then_normal (WC.block (?_))))))))
  refine WC.loop (σ := Nat × List UInt8) (fun q => [(0, .pointer (some ⟨gf, 0, none⟩)), (1, .slice (some ⟨g, 0, none⟩) xs.length c), (2, v8 s), (8, vi xs.length), (9, vi (q.1 : Int))]) (fun q w' => q.1 ≤ xs.length ∧ (q.2.length = xs.length ∧ ∀ j, q.2.getD j 0 = if j < q.1 then mul (xs.getD j 0) s else xs.getD j 0) ∧ Blk w' gf 65 FR ∧ Row (fun b => b = g) w' 5 eb (some ⟨g, 0, none⟩) c q.2 ∧ Chg (fun b => b = g) w w') (fun q => xs.length - q.1) (0, xs) ⟨rfl, rfl, rfl, rfl, rfl, trivial⟩ ⟨Nat.zero_le _, ⟨rfl, fun j => by rw [if_neg (Nat.not_lt_zero j)]⟩, hR, hr, hw⟩ ?_
  clear hR hr hw
  rintro ⟨i, ys⟩ w1 ⟨hi, ⟨hyl, hyv⟩, hR, hr, hw⟩
  simp only at hi hyl hyv hr
  dsimp only
  refine WC.seq (WC.region (?_))
  refine WL.lss? rfl rfl rfl (fun h10 => ?_) (fun h10 => ?_)
  ·
    refine WL.nil (WX.then_normal (WC.seq (WC.cond_true rfl (WC.skip (WX.then_normal (WC.seq (WC.block (?_))))))))
    refine WC.seq (WC.region (WL.move rfl rfl (WL.assign rfl rfl (WL.nil (WX.then_normal (WC.region (WL.move rfl rfl (?_))))))))
    refine WL.move rfl rfl (WL.move rfl rfl (WL.move rfl rfl (WL.move rfl rfl (?_))))
    obtain ⟨y, hy⟩ : ∃ y, ys[i]? = some y := ⟨_, List.getElem?_eq_getElem (by omega)⟩
    refine WL.indexT (e := eb) Try.underlying23 Try.sizeOf5 hr.rsl (by show some (Value.slice _ xs.length c) = _; rw [hyl]) rfl ⟨hy, rfl⟩ rfl ?_
    intro bb oo hcc
    refine WL.load Try.isAgg5 rfl (hcc 0 _ rfl) rfl ?_
    refine WL.move rfl rfl (?_)
    refine WL.call eg_15 rfl rfl (mulR_calls hR y s) ?_
    rintro v w2 ⟨rfl, k2⟩
    have zs_k2 := k2.size
    replace hR := hR.pure k2
    replace hr := hr.pure k2
    replace hw := hw.pure k2
    refine WL.index (j := i) (sz := 1) Try.underlying23 Try.sizeOf5 rfl rfl rfl (by omega) rfl ?_
    refine WL.storeRow (z := mul y s) i Try.sizeOf5 hr rfl rfl rfl (by show 0 + i * 1 = i; omega) (by omega) rfl ?_
    intro w3 z3 hr3 k3
    replace hR := hR.chg k3 (fun e => hne e.symm)
    replace hw := hw.chg k3 (fun x _ h => h)
    refine WL.nil (WX.block_normal (WX.then_normal (WC.region (WL.add64 rfl rfl (by first | omega | (constructor <;> omega)) rfl (WL.move rfl rfl (WL.nil (?_)))))))
    refine WX.loop_next (i + 1, ys.set i (mul y s)) ⟨rfl, rfl, rfl, rfl, rfl, trivial⟩ ⟨by show i + 1 ≤ _; omega, ⟨by show (ys.set i _).length = _; rw [List.length_set]; exact hyl, fun j => ?_⟩, hR, hr3, hw⟩ (by show xs.length - (i + 1) < xs.length - i; omega)
    show (ys.set i (mul y s)).getD j 0 = if j < i + 1 then _ else _
    rw [List.getD_eq_getElem?_getD, List.getElem?_set]
    by_cases e : i = j
    ·
      subst e
      have h1 := hyv i
      rw [if_neg (Nat.lt_irrefl i), List.getD_eq_getElem?_getD, hy] at h1
      rw [if_pos rfl, if_pos (by omega), if_pos (by omega), ← h1]
      rfl
    ·
      rw [if_neg e, ← List.getD_eq_getElem?_getD, hyv j]
      by_cases e2 : j < i
      ·
        rw [if_pos e2, if_pos (by omega)]
      ·
        rw [if_neg e2, if_neg (by omega)]
  ·
    refine WL.nil (WX.then_normal (WC.seq (WC.cond_false rfl (WC.exit (WX.then_exit (WX.then_exit (WX.block_here (?_))))))))
    refine WX.ret0 (.inr rfl) Try.results31 ?_
    have hi2 : i = xs.length := by omega
    subst hi2
    refine ⟨_, rfl, rfl, ⟨ys, hyl, fun j => ?_, hr⟩, hw⟩
    rw [hyv j]
    by_cases e : j < xs.length
    ·
      rw [if_pos e]
    ·
      rw [if_neg e]
      have e3 : xs.getD j 0 = 0 := by rw [List.getD_eq_getElem?_getD, List.getElem?_eq_none (by omega)]; rfl
      rw [e3, mul_zero_l]
theorem fadd_calls {w : World} {gf g c cr : Nat} {ar : Option Addr} {xs rs : List UInt8} (hR : Blk w gf 65 FR) (hr : Row (fun b => b = g) w 5 eb (some ⟨g, 0, none⟩) c xs) (hs : RSl (fun b => b ≠ g) w eb ar cr rs) (hrl : rs.length = xs.length) (hne : g ≠ gf) (hl : xs.length ≤ 100000) (s : UInt8) :
    Calls Try.prog 32 [.pointer (some ⟨gf, 0, none⟩), .slice (some ⟨g, 0, none⟩) xs.length c, .slice ar rs.length cr, v8 s].toArray w (Ret fun v w' => v = .tuple #[] ∧ (∃ ys : List UInt8, ys.length = xs.length ∧ (∀ j, ys.getD j 0 = xs.getD j 0 ^^^ mul (rs.getD j 0) s) ∧ Row (fun b => b = g) w' 5 eb (some ⟨g, 0, none⟩) c ys) ∧ Chg (fun b => b = g) w w') := by
  have hw := Chg.refl (fun b => b = g) w
  refine Calls.of_WC Try.func32 rfl Try.ntmps32 (by simp) ?_
  refine WC.seq (WC.region (WL.move rfl rfl (WL.len Try.underlying23 rfl rfl (WL.move rfl rfl (WL.nil (WX.then_normal (WC.block (?_))))))))
  refine WC.loop (σ := Nat × List UInt8) (fun q => [(0, .pointer (some ⟨gf, 0, none⟩)), (1, .slice (some ⟨g, 0, none⟩) xs.length c), (2, .slice ar rs.length cr), (3, v8 s), (10, vi xs.length), (11, vi (q.1 : Int))]) (fun q w' => q.1 ≤ xs.length ∧ (q.2.length = xs.length ∧ ∀ j, q.2.getD j 0 = if j < q.1 then xs.getD j 0 ^^^ mul (rs.getD j 0) s else xs.getD j 0) ∧ Blk w' gf 65 FR ∧ Row (fun b => b = g) w' 5 eb (some ⟨g, 0, none⟩) c q.2 ∧ RSl (fun b => b ≠ g) w' eb ar cr rs ∧ Chg (fun b => b = g) w w') (fun q => xs.length - q.1) (0, xs) ⟨rfl, rfl, rfl, rfl, rfl, rfl, trivial⟩ ⟨Nat.zero_le _, ⟨rfl, fun j => by rw [if_neg (Nat.not_lt_zero j)]⟩, hR, hr, hs, hw⟩ ?_
  clear hR hr hs hw
  rintro ⟨i, ys⟩ w1 ⟨hi, ⟨hyl, hyv⟩, hR, hr, hs, hw⟩
  simp only at hi hyl hyv hr
  dsimp only
  refine WC.seq (WC.region (?_))
  refine WL.lss? rfl rfl rfl (fun h12 => ?_) (fun h12 => ?_)
  ·
    refine WL.nil (WX.then_normal (WC.seq (WC.cond_true rfl (WC.skip (WX.then_normal (WC.seq (WC.block (?_))))))))
    refine WC.seq (WC.region (WL.move rfl rfl (WL.assign rfl rfl (WL.nil (WX.then_normal (?_))))))
    obtain ⟨y, hy⟩ : ∃ y, ys[i]? = some y := ⟨_, List.getElem?_eq_getElem (by omega)⟩
    obtain ⟨z, hz⟩ : ∃ z, rs[i]? = some z := ⟨_, List.getElem?_eq_getElem (by omega)⟩
    obtain ⟨zb, zo, hza⟩ := hs.place hz
    refine WC.draw (fun b => b = g) [0, 1, 2, 4, 5, 6, 7, 8, 9, 10, 12] [3, 11, 13] mixed rfl rfl (fun wd_1 kd_1 zd_1 => ?_)
    have zs_kd_1 := kd_1.size
    replace hR := hR.pure kd_1
    replace hr := hr.pure kd_1
    replace hs := hs.pure kd_1
    replace hw := hw.pure kd_1
    apply DQ.step (E' := [(1, _)])
    case ho => rfl
    case hs => exact ⟨rfl, trivial⟩
    case hk => rfl
    case h1 =>
      intro wq_3 kq_3
      refine WL.move rfl rfl (?_)
      refine WL.nil ?_
      exact WX.one ⟨rfl, by first | exact Chg.refl _ _ | assumption⟩
    apply DQ.step (E' := [(8, _)])
    case ho => rfl
    case hs => exact ⟨rfl, trivial⟩
    case hk => rfl
    case h1 =>
      intro wq_4 kq_4
      refine WL.move rfl rfl (?_)
      refine WL.nil ?_
      exact WX.one ⟨rfl, by first | exact Chg.refl _ _ | assumption⟩
    apply DQ.step (E' := [(14, _), (15, _)])
    case ho => rfl
    case hs => exact ⟨rfl, rfl, trivial⟩
    case hk => rfl
    case h1 =>
      intro wq_5 kq_5
      have zs_kq_5 := kq_5.size
      replace hR := hR.chg kq_5 (by first | (intro x h1 h2; exact h2) | (intro x h1 h2; have h3 : _ = _ := h2; exfalso; omega) | (intro b h1 h2 h3; have h4 : _ = _ := h3; (try dsimp only at h2); exfalso; omega) | (intro h1; have h2 : _ = _ := h1; exfalso; omega) | (intros; exfalso; (try dsimp only at *); omega) | (intro b h1 h2 h3; exfalso; have h4 := h3.2; (try dsimp only at *); omega) | (intro h1; exfalso; have h4 := h1.2; (try dsimp only at *); omega))
      replace hs := hs.chg kq_5 (by first | (intro x h1 h2; exact h2) | (intro x h1 h2; have h3 : _ = _ := h2; exfalso; omega) | (intro b h1 h2 h3; have h4 : _ = _ := h3; (try dsimp only at h2); exfalso; omega) | (intro h1; have h2 : _ = _ := h1; exfalso; omega) | (intros; exfalso; (try dsimp only at *); omega) | (intro b h1 h2 h3; exfalso; have h4 := h3.2; (try dsimp only at *); omega) | (intro h1; exfalso; have h4 := h1.2; (try dsimp only at *); omega))
      refine WL.index (j := i) (sz := 1) Try.underlying23 Try.sizeOf5 rfl rfl rfl (by omega) rfl ?_
      refine WL.nil ?_
      exact WX.one ⟨rfl, by first | exact Chg.refl _ _ | assumption⟩
    apply DQ.step (E' := [(0, _)])
    case ho => rfl
    case hs => exact ⟨rfl, trivial⟩
    case hk => rfl
    case h1 =>
      intro wq_6 kq_6
      refine WL.move rfl rfl (?_)
      refine WL.nil ?_
      exact WX.one ⟨rfl, by first | exact Chg.refl _ _ | assumption⟩
    apply DQ.step (E' := [(2, _)])
    case ho => rfl
    case hs => exact ⟨rfl, trivial⟩
    case hk => rfl
    case h1 =>
      intro wq_7 kq_7
      refine WL.move rfl rfl (?_)
      refine WL.nil ?_
      exact WX.one ⟨rfl, by first | exact Chg.refl _ _ | assumption⟩
    apply DQ.step (E' := [(8, _)])
    case ho => rfl
    case hs => exact ⟨rfl, trivial⟩
    case hk => rfl
    case h1 =>
      intro wq_8 kq_8
      refine WL.move rfl rfl (?_)
      refine WL.nil ?_
      exact WX.one ⟨rfl, by first | exact Chg.refl _ _ | assumption⟩
    apply DQ.step (E' := [(19, _), (20, _)])
    case ho => rfl
    case hs => exact ⟨rfl, rfl, trivial⟩
    case hk => rfl
    case h1 =>
      intro wq_9 kq_9
      have zs_kq_9 := kq_9.size
      replace hR := hR.chg kq_9 (by first | (intro x h1 h2; exact h2) | (intro x h1 h2; have h3 : _ = _ := h2; exfalso; omega) | (intro b h1 h2 h3; have h4 : _ = _ := h3; (try dsimp only at h2); exfalso; omega) | (intro h1; have h2 : _ = _ := h1; exfalso; omega) | (intros; exfalso; (try dsimp only at *); omega) | (intro b h1 h2 h3; exfalso; have h4 := h3.2; (try dsimp only at *); omega) | (intro h1; exfalso; have h4 := h1.2; (try dsimp only at *); omega))
      replace hs := hs.chg kq_9 (by first | (intro x h1 h2; exact h2) | (intro x h1 h2; have h3 : _ = _ := h2; exfalso; omega) | (intro b h1 h2 h3; have h4 : _ = _ := h3; (try dsimp only at h2); exfalso; omega) | (intro h1; have h2 : _ = _ := h1; exfalso; omega) | (intros; exfalso; (try dsimp only at *); omega) | (intro b h1 h2 h3; exfalso; have h4 := h3.2; (try dsimp only at *); omega) | (intro h1; exfalso; have h4 := h1.2; (try dsimp only at *); omega))
      have hsq := hs
      rw [hza] at hsq
      refine WL.indexC (e := eb) hsq Try.underlying23 Try.sizeOf5 (by show some (Value.slice ar rs.length cr) = _; rw [hza]) rfl ⟨hz, rfl⟩ rfl ?_
      refine WL.nil ?_
      exact WX.one ⟨rfl, by first | exact Chg.refl _ _ | assumption⟩
    apply DQ.step (E' := [(21, _)])
    case ho => rfl
    case hs => exact ⟨rfl, trivial⟩
    case hk => rfl
    case h1 =>
      intro wq_10 kq_10
      have zs_kq_10 := kq_10.size
      replace hR := hR.chg kq_10 (by first | (intro x h1 h2; exact h2) | (intro x h1 h2; have h3 : _ = _ := h2; exfalso; omega) | (intro b h1 h2 h3; have h4 : _ = _ := h3; (try dsimp only at h2); exfalso; omega) | (intro h1; have h2 : _ = _ := h1; exfalso; omega) | (intros; exfalso; (try dsimp only at *); omega) | (intro b h1 h2 h3; exfalso; have h4 := h3.2; (try dsimp only at *); omega) | (intro h1; exfalso; have h4 := h1.2; (try dsimp only at *); omega))
      replace hs := hs.chg kq_10 (by first | (intro x h1 h2; exact h2) | (intro x h1 h2; have h3 : _ = _ := h2; exfalso; omega) | (intro b h1 h2 h3; have h4 : _ = _ := h3; (try dsimp only at h2); exfalso; omega) | (intro h1; have h2 : _ = _ := h1; exfalso; omega) | (intros; exfalso; (try dsimp only at *); omega) | (intro b h1 h2 h3; exfalso; have h4 := h3.2; (try dsimp only at *); omega) | (intro h1; exfalso; have h4 := h1.2; (try dsimp only at *); omega))
      have hsq := hs
      rw [hza] at hsq
      refine WL.load Try.isAgg5 rfl (hsq.cellsAt hz 0 _ rfl) rfl ?_
      refine WL.nil ?_
      exact WX.one ⟨rfl, by first | exact Chg.refl _ _ | assumption⟩
    apply DQ.step (E' := [(3, _)])
    case ho => rfl
    case hs => exact ⟨rfl, trivial⟩
    case hk => rfl
    case h1 =>
      intro wq_11 kq_11
      refine WL.move rfl rfl (?_)
      refine WL.nil ?_
      exact WX.one ⟨rfl, by first | exact Chg.refl _ _ | assumption⟩
    apply DQ.step (E' := [(18, _), (22, _), (23, _)])
    case ho => rfl
    case hs => exact ⟨rfl, rfl, rfl, trivial⟩
    case hk => rfl
    case h1 =>
      intro wq_12 kq_12
      have zs_kq_12 := kq_12.size
      replace hR := hR.chg kq_12 (by first | (intro x h1 h2; exact h2) | (intro x h1 h2; have h3 : _ = _ := h2; exfalso; omega) | (intro b h1 h2 h3; have h4 : _ = _ := h3; (try dsimp only at h2); exfalso; omega) | (intro h1; have h2 : _ = _ := h1; exfalso; omega) | (intros; exfalso; (try dsimp only at *); omega) | (intro b h1 h2 h3; exfalso; have h4 := h3.2; (try dsimp only at *); omega) | (intro h1; exfalso; have h4 := h1.2; (try dsimp only at *); omega))
      replace hs := hs.chg kq_12 (by first | (intro x h1 h2; exact h2) | (intro x h1 h2; have h3 : _ = _ := h2; exfalso; omega) | (intro b h1 h2 h3; have h4 : _ = _ := h3; (try dsimp only at h2); exfalso; omega) | (intro h1; have h2 : _ = _ := h1; exfalso; omega) | (intros; exfalso; (try dsimp only at *); omega) | (intro b h1 h2 h3; exfalso; have h4 := h3.2; (try dsimp only at *); omega) | (intro h1; exfalso; have h4 := h1.2; (try dsimp only at *); omega))
      refine WL.call eg_15 rfl rfl (mulR_calls hR z s) ?_
      rintro v w2 ⟨rfl, k2⟩
      have zs_k2 := k2.size
      replace hR := hR.pure k2
      replace hs := hs.pure k2
      refine WL.nil ?_
      exact WX.one ⟨rfl, by first | exact Chg.refl _ _ | assumption⟩
    apply DQ.step (E' := [(14, _), (15, _)])
    case ho => rfl
    case hs => exact ⟨rfl, rfl, trivial⟩
    case hk => rfl
    case h1 =>
      intro wq_13 kq_13
      have zs_kq_13 := kq_13.size
      replace hR := hR.chg kq_13 (by first | (intro x h1 h2; exact h2) | (intro x h1 h2; have h3 : _ = _ := h2; exfalso; omega) | (intro b h1 h2 h3; have h4 : _ = _ := h3; (try dsimp only at h2); exfalso; omega) | (intro h1; have h2 : _ = _ := h1; exfalso; omega) | (intros; exfalso; (try dsimp only at *); omega) | (intro b h1 h2 h3; exfalso; have h4 := h3.2; (try dsimp only at *); omega) | (intro h1; exfalso; have h4 := h1.2; (try dsimp only at *); omega))
      replace hs := hs.chg kq_13 (by first | (intro x h1 h2; exact h2) | (intro x h1 h2; have h3 : _ = _ := h2; exfalso; omega) | (intro b h1 h2 h3; have h4 : _ = _ := h3; (try dsimp only at h2); exfalso; omega) | (intro h1; have h2 : _ = _ := h1; exfalso; omega) | (intros; exfalso; (try dsimp only at *); omega) | (intro b h1 h2 h3; exfalso; have h4 := h3.2; (try dsimp only at *); omega) | (intro h1; exfalso; have h4 := h1.2; (try dsimp only at *); omega))
      refine WL.index (j := i) (sz := 1) Try.underlying23 Try.sizeOf5 rfl rfl rfl (by omega) rfl ?_
      refine WL.nil ?_
      exact WX.one ⟨rfl, by first | exact Chg.refl _ _ | assumption⟩
    refine DQ.done (fun hd_2 => ?_)
    refine DL.step [(16, _)] rfl ⟨rfl, trivial⟩ rfl (fun wq_14 kq_14 => ?_)
    have zs_kq_14 := kq_14.size
    replace hR := hR.pure kq_14
    replace hr := hr.pure kq_14
    replace hs := hs.pure kq_14
    replace hw := hw.pure kq_14
    replace hd_2 := hd_2.pure kq_14
    refine WL.load Try.isAgg5 rfl ((hr.rsl.cellsAt hy) 0 _ rfl) rfl ?_
    refine WL.nil ?_
    refine WX.one ⟨hd_2, ?_⟩
    refine DL.step [(17, _), (24, _)] rfl ⟨rfl, rfl, trivial⟩ rfl (fun wq_15 kq_15 => ?_)
    have zs_kq_15 := kq_15.size
    replace hR := hR.pure kq_15
    replace hr := hr.pure kq_15
    replace hs := hs.pure kq_15
    replace hw := hw.pure kq_15
    replace hd_2 := hd_2.pure kq_15
    refine WL.num rfl rfl (n_xor8 _ _ _ _) rfl (?_)
    refine WL.nil ?_
    refine WX.one ⟨hd_2, ?_⟩
    refine DL.step [(26, _), (25, _)] rfl ⟨rfl, rfl, trivial⟩ rfl (fun wq_16 kq_16 => ?_)
    have zs_kq_16 := kq_16.size
    replace hR := hR.pure kq_16
    replace hr := hr.pure kq_16
    replace hs := hs.pure kq_16
    replace hw := hw.pure kq_16
    replace hd_2 := hd_2.pure kq_16
    refine WL.storeRow (z := y ^^^ mul z s) i Try.sizeOf5 hr rfl rfl rfl (by show 0 + i * 1 = i; omega) (by omega) rfl ?_
    intro w3 z3 hr3 k3
    have zs_k3 := k3.size
    replace hR := hR.chg k3 (by first | (intro x h1 h2; exact h2) | (intro x h1 h2; have h3 : _ = _ := h2; exfalso; omega) | (intro b h1 h2 h3; have h4 : _ = _ := h3; (try dsimp only at h2); exfalso; omega) | (intro h1; have h2 : _ = _ := h1; exfalso; omega) | (intros; exfalso; (try dsimp only at *); omega) | (intro b h1 h2 h3; exfalso; have h4 := h3.2; (try dsimp only at *); omega) | (intro h1; exfalso; have h4 := h1.2; (try dsimp only at *); omega))
    replace hs := hs.chg k3 (by first | (intro x h1 h2; exact h2) | (intro x h1 h2; have h3 : _ = _ := h2; exfalso; omega) | (intro b h1 h2 h3; have h4 : _ = _ := h3; (try dsimp only at h2); exfalso; omega) | (intro h1; have h2 : _ = _ := h1; exfalso; omega) | (intros; exfalso; (try dsimp only at *); omega) | (intro b h1 h2 h3; exfalso; have h4 := h3.2; (try dsimp only at *); omega) | (intro h1; exfalso; have h4 := h1.2; (try dsimp only at *); omega))
    replace hw := hw.chg k3 (by first | (intro x h1 h2; exact h2) | (intro x h1 h2; have h3 : _ = _ := h2; exfalso; omega) | (intro b h1 h2 h3; have h4 : _ = _ := h3; (try dsimp only at h2); exfalso; omega) | (intro h1; have h2 : _ = _ := h1; exfalso; omega) | (intros; exfalso; (try dsimp only at *); omega) | (intro b h1 h2 h3; exfalso; have h4 := h3.2; (try dsimp only at *); omega) | (intro h1; exfalso; have h4 := h1.2; (try dsimp only at *); omega))
    replace hd_2 := hd_2.chg k3 (by first | (intro x h1 h2; exact h2) | (intro x h1 h2; have h3 : _ = _ := h2; exfalso; omega) | (intro b h1 h2 h3; have h4 : _ = _ := h3; (try dsimp only at h2); exfalso; omega) | (intro h1; have h2 : _ = _ := h1; exfalso; omega) | (intros; exfalso; (try dsimp only at *); omega) | (intro b h1 h2 h3; exfalso; have h4 := h3.2; (try dsimp only at *); omega) | (intro h1; exfalso; have h4 := h1.2; (try dsimp only at *); omega))
    refine WL.nil ?_
    refine WX.one0 (v := undef) ⟨hd_2, ?_⟩
    refine DL.done (fun we_17 ke_17 => ?_)
    have zs_ke_17 := ke_17.size
    replace hR := hR.pure ke_17
    replace hs := hs.pure ke_17
    replace hw := hw.pure ke_17
    replace hd_2 := hd_2.pure ke_17
    replace hr3 := hr3.pure ke_17
    refine WX.block_normal (WX.then_normal (WC.region (WL.add64 rfl rfl (by first | omega | (constructor <;> omega)) rfl (WL.move rfl rfl (WL.nil (?_))))))
    refine WX.loop_next (i + 1, ys.set i (y ^^^ mul z s)) ⟨rfl, rfl, rfl, rfl, rfl, rfl, trivial⟩ ⟨by show i + 1 ≤ _; omega, ⟨by show (ys.set i _).length = _; rw [List.length_set]; exact hyl, fun j => ?_⟩, hR, hr3, hs, hw⟩ (by show xs.length - (i + 1) < xs.length - i; omega)
    show (ys.set i (y ^^^ mul z s)).getD j 0 = if j < i + 1 then _ else _
    rw [List.getD_eq_getElem?_getD, List.getElem?_set]
    by_cases e : i = j
    ·
      subst e
      have h1 := hyv i
      rw [if_neg (Nat.lt_irrefl i), List.getD_eq_getElem?_getD, hy] at h1
      have h2 : rs.getD i 0 = z := by rw [List.getD_eq_getElem?_getD, hz]; rfl
      rw [if_pos rfl, if_pos (by omega), if_pos (by omega), ← h1, h2]
      rfl
    ·
      rw [if_neg e, ← List.getD_eq_getElem?_getD, hyv j]
      by_cases e2 : j < i
      ·
        rw [if_pos e2, if_pos (by omega)]
      ·
        rw [if_neg e2, if_neg (by omega)]
  ·
    refine WL.nil (WX.then_normal (WC.seq (WC.cond_false rfl (WC.exit (WX.then_exit (WX.then_exit (WX.block_here (?_))))))))
    refine WX.ret0 (.inr rfl) Try.results32 ?_
    have hi2 : i = xs.length := by omega
    subst hi2
    refine ⟨_, rfl, rfl, ⟨ys, hyl, fun j => ?_, hr⟩, hw⟩
    rw [hyv j]
    by_cases e : j < xs.length
    ·
      rw [if_pos e]
    ·
      rw [if_neg e]
      have e3 : rs.getD j 0 = 0 := by rw [List.getD_eq_getElem?_getD, List.getElem?_eq_none (by omega)]; rfl
      rw [e3, mul_zero_l, xor_zero']
end Go.Proofs.Ytjdbjdgobhjbkaa
namespace Go.HL
open Go.RowKit
/-! two places of a list change -/
def sg (a b i : Nat) : Nat := if i = a then b else if i = b then a else i
theorem sg_sg (a b i : Nat) : sg a b (sg a b i) = i := by
  unfold sg
  by_cases e1 : i = a
  · rw [if_pos e1]
    by_cases e2 : b = a
    · rw [if_pos e2]; omega
    · rw [if_neg e2, if_pos rfl]; omega
  · rw [if_neg e1]
    by_cases e2 : i = b
    · rw [if_pos e2, if_pos rfl]; omega
    · rw [if_neg e2, if_neg e1, if_neg e2]
theorem sg_inj {a b i j : Nat} (h : sg a b i = sg a b j) : i = j := by
  rw [← sg_sg a b i, h, sg_sg]
theorem swap_get {α : Type} {l : List α} {a b : Nat} {x y : α} (ha : l[a]? = some x) (hb : l[b]? = some y) (i : Nat) : ((l.set a y).set b x)[i]? = l[sg a b i]? := by
  have hal := (List.getElem?_eq_some_iff.1 ha).1
  have hbl := (List.getElem?_eq_some_iff.1 hb).1
  rw [List.getElem?_set, List.length_set, List.getElem?_set]
  unfold sg
  by_cases e1 : b = i
  · subst e1
    rw [if_pos rfl, if_pos hbl]
    by_cases e2 : b = a
    · subst e2; rw [if_pos rfl]; exact ha.symm
    · rw [if_neg e2, if_pos rfl]; exact ha.symm
  · rw [if_neg e1]
    by_cases e2 : a = i
    · subst e2; rw [if_pos rfl, if_pos hal, if_pos rfl]; exact hb.symm
    · rw [if_neg e2, if_neg (fun e => e2 e.symm), if_neg (fun e => e1 e.symm)]
section
variable {L N n1 : Nat} {w w' : World} {T U : TypeId} {ao : Option Addr} {c : Nat} {gs : List Nat} {rs : List Rw} {M : Nat → Prop}
theorem AR.chgN (h : AR L N n1 w T U ao c gs rs) (k : Chg M w w') (hd : ∀ x, L ≤ x ∨ N ≤ x → M x → False) : AR L N n1 w' T U ao c gs rs :=
  ⟨h.outer.chg k (fun b _ hs hm => hd b (.inr hs.1) hm), fun i g r hg hr => by
    obtain ⟨h1, h2, h3, h4⟩ := h.inner i g r hg hr
    exact ⟨h1, h2.chg k (fun b _ hs hm => hd b (.inl (by have h5 : b = g := hs; have := h.low i g hg; omega)) hm), h3, h4⟩, h.len, h.apart, h.low⟩
theorem AR.up (h : AR L N n1 w T U ao c gs rs) {n2 : Nat} (hn : n1 ≤ n2) : AR L N n2 w T U ao c gs rs :=
  ⟨h.outer.mono (fun b hb => ⟨hb.1, by have := hb.2; omega⟩), fun i g r hg hr => by
    obtain ⟨h1, h2, h3, h4⟩ := h.inner i g r hg hr
    exact ⟨h1, h2, by omega, h4⟩, h.len, h.apart, h.low⟩
theorem AR.swap (h : AR L N n1 w T U ao c gs rs) {a b ga gb : Nat} {ra rb : Rw} (hga : gs[a]? = some ga) (hgb : gs[b]? = some gb) (hra : rs[a]? = some ra) (hrb : rs[b]? = some rb) (k : Chg (Eqb ao) w w')
    (ho : Row (fun x => N ≤ x ∧ x < n1) w' T erow ao c ((rs.set a rb).set b ra)) : AR L N n1 w' T U ao c ((gs.set a gb).set b ga) ((rs.set a rb).set b ra) := by
  refine ⟨ho, fun i g r hg hr => ?_, by simp [h.len], fun i j g h1 h2 => ?_, fun i g h1 => ?_⟩
  · rw [swap_get hga hgb] at hg
    rw [swap_get hra hrb] at hr
    obtain ⟨h1, h2, h3, h4⟩ := h.inner _ g r hg hr
    exact ⟨h1, h2.chg k (fun x _ hx hm => h4 (by have e : x = g := hx; rw [← e]; exact hm)), h3, h4⟩
  · rw [swap_get hga hgb] at h1 h2
    exact sg_inj (h.apart _ _ g h1 h2)
  · rw [swap_get hga hgb] at h1
    exact h.low _ g h1
end
def mx (rs : List Rw) : List (List UInt8) := rs.map (·.xs)
theorem mx_at {rs : List Rw} {i : Nat} {r : Rw} (h : rs[i]? = some r) : (mx rs)[i]? = some r.xs := by simp [mx, h]
theorem mx_len (rs : List Rw) : (mx rs).length = rs.length := by simp [mx]
theorem fn_row {m : List (List UInt8)} {i : Nat} {r : Option (List UInt8)} (h : m[i]? = r) (j : Nat) : fn m i j = (r.getD []).getD j 0 := by
  have e : m.getD i [] = r.getD [] := by rw [List.getD_eq_getElem?_getD, h]
  rw [fn, e]
theorem fn_mx {rs : List Rw} {i : Nat} {r : Rw} (h : rs[i]? = some r) (j : Nat) : fn (mx rs) i j = r.xs.getD j 0 := by
  rw [fn_row (mx_at h)]
  rfl
theorem fn_swap {rs : List Rw} {a b : Nat} {ra rb : Rw} (hra : rs[a]? = some ra) (hrb : rs[b]? = some rb) (i j : Nat) : fn (mx ((rs.set a rb).set b ra)) i j = fn (mx rs) (sg a b i) j := by
  have e : (mx ((rs.set a rb).set b ra))[i]? = (mx rs)[sg a b i]? := by
    rw [mx, mx, List.getElem?_map, List.getElem?_map, swap_get hra hrb]
  rw [fn_row e, fn_row rfl]
theorem fn_setr {rs : List Rw} {k : Nat} (hk : k < rs.length) (q : Rw) (i j : Nat) : fn (mx (rs.set k q)) i j = if i = k then q.xs.getD j 0 else fn (mx rs) i j := by
  have e : mx (rs.set k q) = (mx rs).set k q.xs := by rw [mx, mx, List.map_set]
  rw [e, fn_set (by rw [mx_len]; exact hk)]
end Go.HL
namespace Go.Proofs.Ytjdbjdgobhjbkaa
open Go.RowKit Go.HL

theorem invR_calls {w : World} {g : Nat} (hR : Blk w g 65 FR) (a : UInt8) : Calls Try.prog 30 [.pointer (some ⟨g, 0, none⟩), v8 a].toArray w (Ret fun v w' => v = .tuple #[v8 (inv a), vi (if a = 0 then 1 else 0)] ∧ Chg Nob w w') := by
  have hw := Chg.refl Nob w
  have hla := L_lt a
  refine Calls.of_WC Try.func30 rfl Try.ntmps30 (by simp) ?_
  refine WC.seq (WC.region (WL.assign rfl rfl (WL.assign rfl rfl (WL.nil (WX.then_normal (WC.seq (WC.seq (?_))))))))
  refine WC.region (WL.move rfl rfl (?_))
  refine WL.eql? rfl rfl rfl (fun h7 => ?_) (fun h7 => ?_)
  ·
    refine WL.nil (WX.then_normal (WC.cond_true rfl (WC.seq (WC.region (WL.assign rfl rfl (WL.assign rfl rfl (WL.nil (?_))))))))
    refine WX.then_normal (WC.ret (WX.then_ret (?_)))
    refine WX.ret2 (.inl rfl) Try.results30 rfl rfl ?_
    first
      | (have ha := u8_zero h7
         subst ha
         exact ⟨_, rfl, rfl, hw⟩)
      | (refine ⟨_, rfl, ?_, hw⟩
         rw [inv, if_neg (u8_ne h7), if_neg (u8_ne h7)])
  ·
    refine WL.nil (WX.then_normal (WC.cond_false rfl (WC.skip (WX.then_normal (WC.seq (WC.region (WL.move rfl rfl (?_))))))))
    refine WL.call eg_29 rfl rfl (readyR_calls hR) ?_
    rintro v w2 ⟨rfl, k⟩
    have zs_k := k.size
    replace hR := hR.pure k
    replace hw := hw.pure k
    refine WL.assign rfl rfl (WL.nil (WX.then_normal (WC.seq (?_))))
    refine WC.draw (Nob) [0, 1, 2, 3, 4, 5, 6, 7, 8, 9, 10, 11, 12, 13] [] mixed rfl rfl (fun wd_1 kd_1 zd_1 => ?_)
    have zs_kd_1 := kd_1.size
    replace hR := hR.pure kd_1
    replace hw := hw.pure kd_1
    apply DQ.step (E' := [(0, _)])
    case ho => rfl
    case hs => exact ⟨rfl, trivial⟩
    case hk => rfl
    case h1 =>
      intro wq_2 kq_2
      refine WL.move rfl rfl (?_)
      refine WL.nil ?_
      exact WX.one ⟨rfl, by first | exact Chg.refl _ _ | assumption⟩
    apply DQ.step (E' := [(0, _)])
    case ho => rfl
    case hs => exact ⟨rfl, trivial⟩
    case hk => rfl
    case h1 =>
      intro wq_3 kq_3
      refine WL.move rfl rfl (?_)
      refine WL.nil ?_
      exact WX.one ⟨rfl, by first | exact Chg.refl _ _ | assumption⟩
    apply DQ.step (E' := [(1, _)])
    case ho => rfl
    case hs => exact ⟨rfl, trivial⟩
    case hk => rfl
    case h1 =>
      intro wq_4 kq_4
      refine WL.move rfl rfl (?_)
      refine WL.nil ?_
      exact WX.one ⟨rfl, by first | exact Chg.refl _ _ | assumption⟩
    apply DQ.step (E' := [(11, _)])
    case ho => rfl
    case hs => exact ⟨rfl, trivial⟩
    case hk => rfl
    case h1 =>
      intro wq_5 kq_5
      refine WL.nilCheck rfl rfl (?_)
      refine WL.nil ?_
      exact WX.one ⟨rfl, by first | exact Chg.refl _ _ | assumption⟩
    apply DQ.step (E' := [(13, _)])
    case ho => rfl
    case hs => exact ⟨rfl, trivial⟩
    case hk => rfl
    case h1 =>
      intro wq_6 kq_6
      refine WL.fieldAddr (fld_65_2) rfl rfl (?_)
      refine WL.nil ?_
      exact WX.one ⟨rfl, by first | exact Chg.refl _ _ | assumption⟩
    apply DQ.step (E' := [(14, _), (12, _)])
    case ho => rfl
    case hs => exact ⟨rfl, rfl, trivial⟩
    case hk => rfl
    case h1 =>
      intro wq_7 kq_7
      have zs_kq_7 := kq_7.size
      replace hR := hR.pure kq_7
      replace hw := hw.pure kq_7
      refine WL.indexArrO a.toNat Try.underlying63 Try.sizeOf3 rfl rfl ⟨rfl, a.toNat_lt⟩ rfl ?_
      refine WL.nil ?_
      exact WX.one ⟨rfl, by first | exact Chg.refl _ _ | assumption⟩
    apply DQ.step (E' := [(15, _)])
    case ho => rfl
    case hs => exact ⟨rfl, trivial⟩
    case hk => rfl
    case h1 =>
      intro wq_8 kq_8
      have zs_kq_8 := kq_8.size
      replace hR := hR.pure kq_8
      replace hw := hw.pure kq_8
      refine WL.loadB Try.isAgg3 hR rfl (FR_l a) rfl ?_
      refine WL.nil ?_
      exact WX.one ⟨rfl, by first | exact Chg.refl _ _ | assumption⟩
    apply DQ.step (E' := [(16, _)])
    case ho => rfl
    case hs => exact ⟨rfl, trivial⟩
    case hk => rfl
    case h1 =>
      intro wq_9 kq_9
      refine WL.sub64 rfl rfl (by first | omega | (constructor <;> omega)) rfl (?_)
      refine WL.nil ?_
      exact WX.one ⟨rfl, by first | exact Chg.refl _ _ | assumption⟩
    apply DQ.step (E' := [(10, _)])
    case ho => rfl
    case hs => exact ⟨rfl, trivial⟩
    case hk => rfl
    case h1 =>
      intro wq_10 kq_10
      refine WL.nilCheck rfl rfl (?_)
      refine WL.nil ?_
      exact WX.one ⟨rfl, by first | exact Chg.refl _ _ | assumption⟩
    apply DQ.step (E' := [(18, _)])
    case ho => rfl
    case hs => exact ⟨rfl, trivial⟩
    case hk => rfl
    case h1 =>
      intro wq_11 kq_11
      refine WL.fieldAddr (fld_65_1) rfl rfl (?_)
      refine WL.nil ?_
      exact WX.one ⟨rfl, by first | exact Chg.refl _ _ | assumption⟩
    apply DQ.step (E' := [(19, _), (17, _)])
    case ho => rfl
    case hs => exact ⟨rfl, rfl, trivial⟩
    case hk => rfl
    case h1 =>
      intro wq_12 kq_12
      have zs_kq_12 := kq_12.size
      replace hR := hR.pure kq_12
      replace hw := hw.pure kq_12
      refine WL.indexArrO (255 - L a) Try.underlying62 Try.sizeOf5 rfl rfl ⟨by omega, by omega⟩ rfl ?_
      refine WL.nil ?_
      exact WX.one ⟨rfl, by first | exact Chg.refl _ _ | assumption⟩
    apply DQ.step (E' := [(20, _)])
    case ho => rfl
    case hs => exact ⟨rfl, trivial⟩
    case hk => rfl
    case h1 =>
      intro wq_13 kq_13
      have zs_kq_13 := kq_13.size
      replace hR := hR.pure kq_13
      replace hw := hw.pure kq_13
      refine WL.loadB Try.isAgg5 hR rfl (FR_e (by omega)) rfl ?_
      refine WL.nil ?_
      exact WX.one ⟨rfl, by first | exact Chg.refl _ _ | assumption⟩
    apply DQ.step (E' := [(21, _)])
    case ho => rfl
    case hs => exact ⟨rfl, trivial⟩
    case hk => rfl
    case h1 =>
      intro wq_14 kq_14
      refine WL.assign rfl rfl (?_)
      refine WL.nil ?_
      exact WX.one ⟨rfl, by first | exact Chg.refl _ _ | assumption⟩
    apply DQ.step (E' := [])
    case ho => rfl
    case hs => exact trivial
    case hk => rfl
    case h1 =>
      intro wq_15 kq_15
      refine WL.assign rfl rfl (?_)
      refine WL.nil ?_
      exact WX.one ⟨rfl, by first | exact Chg.refl _ _ | assumption⟩
    refine DQ.done (fun _ => ?_)
    refine DL.done (fun we_16 ke_16 => ?_)
    have zs_ke_16 := ke_16.size
    replace hR := hR.pure ke_16
    replace hw := hw.pure ke_16
    refine WX.then_normal (WC.ret (?_))
    refine WX.ret2 (.inl rfl) Try.results30 rfl rfl ?_
    first
      | (have ha := u8_zero h7
         subst ha
         exact ⟨_, rfl, rfl, hw⟩)
      | (refine ⟨_, rfl, ?_, hw⟩
         rw [inv, if_neg (u8_ne h7), if_neg (u8_ne h7)])
/-- what the built rows are -/
structure Blt (rs ms : List Rw) (rgt : List UInt8) (i : Nat) : Prop where
  len : ms.length = i
  row : ∀ (j : Nat) (r q : Rw), rs[j]? = some r → ms[j]? = some q → ∃ y, rgt[j]? = some y ∧ q.xs = r.xs ++ [y] ∧ r.xs.length = rs.length
theorem Blt.snoc {rs ms : List Rw} {rgt : List UInt8} {i : Nat} (h : Blt rs ms rgt i) {r q : Rw} {y : UInt8} (hr : rs[i]? = some r) (hy : rgt[i]? = some y) (hq : q.xs = r.xs ++ [y]) (hl : r.xs.length = rs.length) : Blt rs (ms ++ [q]) rgt (i + 1) := by
  refine ⟨by simp [h.len], fun j r' q' h1 h2 => ?_⟩
  rcases get_snoc h2 with h3 | ⟨h3, h4⟩
  · exact h.row j r' q' h1 h3
  · subst h4
    rw [h3, h.len, hr] at h1
    injection h1 with h1
    subst h1
    exact ⟨y, by rw [h3, h.len]; exact hy, hq, hl⟩
end Go.Proofs.Ytjdbjdgobhjbkaa
