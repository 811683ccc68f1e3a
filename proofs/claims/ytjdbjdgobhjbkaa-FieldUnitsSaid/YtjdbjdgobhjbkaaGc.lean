import Derived.Test.YtjdbjdgobhjbkaaFg
import Derived.Test.YtjdbjdgobhjbkaaGb
namespace Go.Proofs.Ytjdbjdgobhjbkaa
open Go.RowKit Go.HL

/-! a number among others -/
theorem index_calls {S : Nat → Prop} {w : World} {ao : Option Addr} {c : Nat} {l : List Int} (hr : RSl S w ei ao c l) (hl : l.length ≤ 140737488351232) (x : Int) :
    Calls Try.prog 49 [.slice ao l.length c, vi x].toArray w (Ret fun v w' => (∃ k : Int, v = vi k ∧ (0 ≤ k ↔ x ∈ l)) ∧ Chg Nob w w') := by
  replace hr := hr.old
  have hw := Chg.refl Nob w
  refine Calls.of_WC Try.func49 rfl Try.ntmps49 (by simp) ?_
  refine WC.seq (WC.region (WL.assign rfl rfl (WL.nil (WX.then_normal (WC.seq (WC.seq (WC.region (?_))))))))
  refine WL.move rfl rfl (WL.len Try.underlying33 rfl rfl (WL.move rfl rfl (WL.nil (WX.then_normal (WC.block (?_))))))
  refine WC.loop (σ := Nat) (fun i => [(0, .slice ao l.length c), (1, vi x), (7, vi l.length), (8, vi i)])
    (fun i w' => i ≤ l.length ∧ (∀ j : Nat, j < i → l[j]? ≠ some x) ∧ RSl (· < w.heap.size) w' ei ao c l ∧ Chg Nob w w') (fun i => l.length - i) 0 ⟨rfl, rfl, rfl, rfl, trivial⟩ ⟨Nat.zero_le _, fun j h => absurd h (by omega), hr, hw⟩ ?_
  clear hr hw
  rintro i w2 ⟨hi, hall, hr, hw⟩
  refine WC.seq (WC.region (?_))
  refine WL.lss? rfl rfl rfl (fun h9 => ?_) (fun h9 => ?_)
  ·
    refine WL.nil (WX.then_normal (WC.seq (WC.cond_true rfl (WC.skip (WX.then_normal (WC.seq (WC.block (?_))))))))
    refine WC.seq (WC.region (WL.move rfl rfl (WL.assign rfl rfl (WL.nil (WX.then_normal (WC.seq (WC.region (?_))))))))
    refine WL.move rfl rfl (WL.move rfl rfl (WL.move rfl rfl (?_)))
    obtain ⟨y, hy⟩ : ∃ y, l[i]? = some y := ⟨_, List.getElem?_eq_getElem (by omega)⟩
    refine WL.indexT Try.underlying33 Try.sizeOf3 hr rfl rfl ⟨hy, rfl⟩ rfl ?_
    intro b_1 o_1 hc_1
    refine WL.load Try.isAgg3 rfl (hc_1 0 _ rfl) rfl (?_)
    refine WL.eql? rfl rfl rfl (fun h16 => ?_) (fun h16 => ?_)
    ·
      refine WL.nil (WX.then_normal (WC.cond_true rfl (WC.seq (WC.region (WL.move rfl rfl (WL.assign rfl rfl (WL.nil (?_))))))))
      refine WX.then_normal (WC.ret (WX.block_ret (WX.then_ret (WX.then_ret (WX.block_ret (WX.then_ret (?_)))))))
      refine WX.ret1 (.inl rfl) Try.results49 rfl ?_
      first
        | (refine ⟨_, rfl, ⟨_, rfl, ?_⟩, hw⟩
           rw [h16]
           exact ⟨fun _ => List.mem_of_getElem? hy, fun _ => by omega⟩)
        | (refine ⟨_, rfl, ⟨_, rfl, ?_⟩, hw⟩
           refine ⟨fun h => absurd h (by decide), fun h => ?_⟩
           obtain ⟨j, hj⟩ := List.getElem?_of_mem h
           have hjl := (List.getElem?_eq_some_iff.1 hj).1
           exact absurd hj (hall j (by omega)))
    ·
      refine WL.nil (WX.then_normal (WC.cond_false rfl (WC.skip (WX.block_normal (WX.then_normal (WC.region (WL.add64 rfl rfl (by first | omega | (constructor <;> omega)) rfl (?_))))))))
      refine WL.move rfl rfl (WL.nil (?_))
      refine WX.loop_next (i + 1) ⟨rfl, rfl, rfl, rfl, trivial⟩ ⟨by omega, fun j h => ?_, hr, hw⟩ (by show _ - _ < _ - _; omega)
      rcases Nat.lt_or_ge j i with h3 | h3
      ·
        exact hall j h3
      ·
        rw [show j = i from by omega, hy]
        exact fun e => h16 (by injection e with e; exact e.symm)
  ·
    refine WL.nil (WX.then_normal (WC.seq (WC.cond_false rfl (WC.exit (WX.then_exit (WX.then_exit (WX.block_here (?_))))))))
    refine WX.then_normal (WC.seq (WC.region (WL.assign rfl rfl (WL.nil (WX.then_normal (WC.ret (?_)))))))
    refine WX.ret1 (.inl rfl) Try.results49 rfl ?_
    first
      | (refine ⟨_, rfl, ⟨_, rfl, ?_⟩, hw⟩
         rw [h16]
         exact ⟨fun _ => List.mem_of_getElem? hy, fun _ => by omega⟩)
      | (refine ⟨_, rfl, ⟨_, rfl, ?_⟩, hw⟩
         refine ⟨fun h => absurd h (by decide), fun h => ?_⟩
         obtain ⟨j, hj⟩ := List.getElem?_of_mem h
         have hjl := (List.getElem?_eq_some_iff.1 hj).1
         exact absurd hj (hall j (by omega)))
theorem contains_calls {S : Nat → Prop} {w : World} {ao : Option Addr} {c : Nat} {l : List Int} (hr : RSl S w ei ao c l) (hl : l.length ≤ 140737488351232) (x : Int) :
    Calls Try.prog 39 [.slice ao l.length c, vi x].toArray w (Ret fun v w' => v = .bool (decide (x ∈ l)) ∧ Chg Nob w w') := by
  replace hr := hr.old
  have hw := Chg.refl Nob w
  refine Calls.of_WC Try.func39 rfl Try.ntmps39 (by simp) ?_
  refine WC.seq (WC.region (WL.assign rfl rfl (WL.nil (WX.then_normal (WC.seq (WC.region (WL.move rfl rfl (?_))))))))
  refine WL.move rfl rfl (?_)
  refine WL.call eg_49 rfl rfl (index_calls hr hl x) ?_
  rintro v w1 ⟨⟨k, rfl, hk⟩, kk⟩
  have zs_kk := kk.size
  replace hr := hr.pure kk
  replace hw := hw.pure kk
  refine WL.geq rfl rfl rfl (WL.assign rfl rfl (WL.nil (WX.then_normal (WC.ret (?_)))))
  refine WX.ret1 (.inl rfl) Try.results39 rfl ?_
  exact ⟨_, rfl, congrArg Value.bool (decide_eq_decide.2 hk), hw⟩
/-! the one length of columns, none of them bad -/
def xss (rs : List Rw) : List (List UInt8) := rs.map Rw.xs
theorem xss_mem {rs : List Rw} {i : Nat} {r : Rw} (h : rs[i]? = some r) : r.xs ∈ xss rs := List.mem_map.2 ⟨r, List.mem_of_getElem? h, rfl⟩
set_option maxHeartbeats 1000000 in
theorem length_calls {S : Nat → Prop} {w : World} {ao : Option Addr} {c : Nat} {rs : List Rw} (hc : RS S w ao c rs) (hl : rs.length * 24 ≤ 140737488351232) :
    Calls Try.prog 43 [.slice ao rs.length c, .slice none 0 0].toArray w (Ret fun v w' => v = vi (lenC (xss rs)) ∧ Chg Nob w w') := by
  replace hc := hc.old
  have hw := Chg.refl Nob w
  refine Calls.of_WC Try.func43 rfl Try.ntmps43 (by simp) ?_
  refine WC.seq (WC.region (WL.assign rfl rfl (WL.nil (WX.then_normal (WC.seq (WC.region (WL.assign rfl rfl (?_))))))))
  refine WL.nil (WX.then_normal (WC.seq (WC.seq (WC.region (WL.move rfl rfl (WL.len Try.underlying22 rfl rfl (WL.move rfl rfl (?_))))))))
  refine WL.nil (WX.then_normal (WC.block (?_)))
  refine WC.loop (σ := Nat × Int) (fun q => [(1, .slice none 0 0), (5, vi q.2), (8, .slice ao rs.length c), (9, vi rs.length), (10, vi q.1)])
    (fun q w' => q.1 ≤ rs.length ∧ (q.1 = 0 ∧ q.2 = -1 ∨ 0 < q.1 ∧ ∃ m : Nat, q.2 = (m : Int) ∧ ∀ (j : Nat) (r : Rw), j < q.1 → rs[j]? = some r → r.xs.length = m) ∧ RS (· < w.heap.size) w' ao c rs ∧ Chg Nob w w') (fun q => rs.length - q.1) (0, -1) ⟨rfl, rfl, rfl, rfl, rfl, trivial⟩ ⟨Nat.zero_le _, .inl ⟨rfl, rfl⟩, hc, hw⟩ ?_
  clear hc hw
  rintro ⟨i, n⟩ w2 ⟨hi, hall, hc, hw⟩
  dsimp only at hi hall hc hw ⊢
  refine WC.seq (WC.region (?_))
  refine WL.lss? rfl rfl rfl (fun h11 => ?_) (fun h11 => ?_)
  ·
    refine WL.nil (WX.then_normal (WC.seq (WC.cond_true rfl (WC.skip (WX.then_normal (WC.seq (WC.block (?_))))))))
    refine WC.seq (WC.region (WL.move rfl rfl (?_)))
    obtain ⟨r, hr⟩ : ∃ r, rs[i]? = some r := ⟨_, List.getElem?_eq_getElem (by omega)⟩
    refine WL.indexT Try.underlying22 Try.sizeOf23 hc.outer rfl rfl ⟨hr, rfl⟩ rfl ?_
    intro b_1 o_1 hc_1
    refine WL.load Try.isAgg23 rfl (hc_1 0 _ rfl) rfl (WL.assign rfl rfl (WL.assign rfl rfl (WL.nil (WX.then_normal (WC.block (WC.seq (WC.region (?_))))))))
    refine WL.move rfl rfl (WL.move rfl rfl (?_))
    refine WL.call eg_39 rfl rfl (contains_calls (RSl.nil (fun _ => True) _ ei none 0) (by decide) _) ?_
    rintro v w3 ⟨rfl, k⟩
    rw [show decide ((i : Int) ∈ ([] : List Int)) = false from rfl]
    have zs_k := k.size
    replace hc := hc.pure k
    replace hw := hw.pure k
    refine WL.assign rfl rfl (WL.nil (WX.then_normal (WC.cond_false rfl (WC.seq (WC.region (WL.move rfl rfl (?_)))))))
    refine WL.geq? rfl rfl rfl (fun h23 => ?_) (fun h23 => ?_)
    ·
      refine WL.move rfl rfl (WL.want rfl rfl rfl (WL.move rfl rfl (WL.want rfl rfl rfl (WL.len Try.underlying23 rfl rfl (WL.want rfl rfl rfl (WL.move rfl rfl (WL.want rfl rfl rfl (?_))))))))
      refine WL.neq? rfl rfl rfl (fun h28 => ?_) (fun h28 => ?_)
      ·
        refine WL.pickT rfl rfl rfl (WL.assign rfl rfl (WL.nil (WX.then_normal (WC.cond_true rfl (WC.seq (WC.region (WL.assign rfl rfl (?_))))))))
        refine WL.nil (WX.then_normal (WC.ret (WX.block_ret (WX.block_ret (WX.then_ret (WX.then_ret (WX.block_ret (?_))))))))
        refine WX.then_ret (?_)
        refine WX.ret1 (.inl rfl) Try.results43 rfl ?_
        first
          | (refine ⟨_, rfl, ?_, hw⟩
             rcases hall with ⟨h1, h2⟩ | ⟨h0, m, h1, h2⟩
             ·
               exfalso; omega
             ·
               obtain ⟨r0, hr0⟩ : ∃ r0, rs[0]? = some r0 := ⟨_, List.getElem?_eq_getElem (by omega)⟩
               have h3 := h2 0 r0 h0 hr0
               rw [lenC_bad (xss_mem hr) (xss_mem hr0) (by omega)])
          | (have hil : i = rs.length := by omega
             refine ⟨_, rfl, ?_, hw⟩
             rcases hall with ⟨h1, h2⟩ | ⟨h0, m, h1, h2⟩
             ·
               have : rs = [] := List.eq_nil_of_length_eq_zero (by omega)
               subst this
               first
                 | rfl
                 | (exfalso; omega)
             ·
               have hne : xss rs ≠ [] := fun e => by
                 have : (xss rs).length = 0 := by rw [e]; rfl
                 rw [xss, List.length_map] at this
                 omega
               have hall2 : ∀ d ∈ xss rs, d.length = m := by
                 intro d hd
                 obtain ⟨r, hr, rfl⟩ := List.mem_map.1 hd
                 obtain ⟨j, hj⟩ := List.getElem?_of_mem hr
                 exact h2 j r (by have := (List.getElem?_eq_some_iff.1 hj).1; omega) hj
               rw [lenC_of hne hall2]
               first
                 | (rw [if_neg (by omega)]; done)
                 | (rw [if_pos (by omega), h1]; done))
      ·
        refine WL.pickT rfl rfl rfl (WL.assign rfl rfl (WL.nil (WX.then_normal (WC.cond_false rfl (WC.region (WL.move rfl rfl (WL.len Try.underlying23 rfl rfl (?_))))))))
        refine WL.assign rfl rfl (WL.nil (WX.block_normal (WX.block_normal (WX.then_normal (WC.region (WL.add64 rfl rfl (by first | omega | (constructor <;> omega)) rfl (WL.move rfl rfl (?_))))))))
        refine WL.nil (?_)
        refine WX.loop_next (i + 1, (r.xs.length : Int)) ⟨rfl, rfl, rfl, rfl, rfl, trivial⟩ ⟨by dsimp only; omega, .inr ⟨by dsimp only; omega, r.xs.length, rfl, fun j r' h h' => ?_⟩, hc, hw⟩ (by show _ - _ < _ - _; omega)
        dsimp only at h
        rcases Nat.lt_or_ge j i with h3 | h3
        ·
          rcases hall with ⟨h1, _⟩ | ⟨_, m, h1, h2⟩
          ·
            omega
          ·
            have h4 := h2 j r' h3 h'
            omega
        ·
          rw [show j = i from by omega, hr] at h'
          injection h' with h'
          rw [h']
    ·
      refine WL.move rfl rfl (WL.pass rfl rfl rfl rfl (WL.pass rfl rfl rfl rfl (WL.pass rfl rfl rfl rfl (WL.pass rfl rfl rfl rfl (WL.pickF rfl rfl rfl (WL.assign rfl rfl (WL.nil (?_))))))))
      refine WX.then_normal (WC.cond_false rfl (WC.region (WL.move rfl rfl (WL.len Try.underlying23 rfl rfl (WL.assign rfl rfl (WL.nil (WX.block_normal (?_))))))))
      refine WX.block_normal (WX.then_normal (WC.region (WL.add64 rfl rfl (by first | omega | (constructor <;> omega)) rfl (WL.move rfl rfl (WL.nil (?_))))))
      refine WX.loop_next (i + 1, (r.xs.length : Int)) ⟨rfl, rfl, rfl, rfl, rfl, trivial⟩ ⟨by dsimp only; omega, .inr ⟨by dsimp only; omega, r.xs.length, rfl, fun j r' h h' => ?_⟩, hc, hw⟩ (by show _ - _ < _ - _; omega)
      dsimp only at h
      rcases Nat.lt_or_ge j i with h3 | h3
      ·
        rcases hall with ⟨h1, _⟩ | ⟨_, m, h1, h2⟩
        ·
          omega
        ·
          have h4 := h2 j r' h3 h'
          omega
      ·
        rw [show j = i from by omega, hr] at h'
        injection h' with h'
        rw [h']
  ·
    refine WL.nil (WX.then_normal (WC.seq (WC.cond_false rfl (WC.exit (WX.then_exit (WX.then_exit (WX.block_here (?_))))))))
    refine WX.then_normal (WC.seq (WC.seq (WC.region (WL.move rfl rfl (?_)))))
    refine WL.lss? rfl rfl rfl (fun h32 => ?_) (fun h32 => ?_)
    ·
      refine WL.move rfl rfl (WL.pass rfl rfl rfl rfl (WL.pass rfl rfl rfl rfl (WL.pickT rfl rfl rfl (WL.nil (WX.then_normal (WC.cond_true rfl (WC.seq (?_))))))))
      refine WC.region (WL.assign rfl rfl (WL.nil (WX.then_normal (WC.ret (WX.then_ret (?_))))))
      refine WX.ret1 (.inl rfl) Try.results43 rfl ?_
      first
        | (refine ⟨_, rfl, ?_, hw⟩
           rcases hall with ⟨h1, h2⟩ | ⟨h0, m, h1, h2⟩
           ·
             exfalso; omega
           ·
             obtain ⟨r0, hr0⟩ : ∃ r0, rs[0]? = some r0 := ⟨_, List.getElem?_eq_getElem (by omega)⟩
             have h3 := h2 0 r0 h0 hr0
             rw [lenC_bad (xss_mem hr) (xss_mem hr0) (by omega)])
        | (have hil : i = rs.length := by omega
           refine ⟨_, rfl, ?_, hw⟩
           rcases hall with ⟨h1, h2⟩ | ⟨h0, m, h1, h2⟩
           ·
             have : rs = [] := List.eq_nil_of_length_eq_zero (by omega)
             subst this
             first
               | rfl
               | (exfalso; omega)
           ·
             have hne : xss rs ≠ [] := fun e => by
               have : (xss rs).length = 0 := by rw [e]; rfl
               rw [xss, List.length_map] at this
               omega
             have hall2 : ∀ d ∈ xss rs, d.length = m := by
               intro d hd
               obtain ⟨r, hr, rfl⟩ := List.mem_map.1 hd
               obtain ⟨j, hj⟩ := List.getElem?_of_mem hr
               exact h2 j r (by have := (List.getElem?_eq_some_iff.1 hj).1; omega) hj
             rw [lenC_of hne hall2]
             first
               | (rw [if_neg (by omega)]; done)
               | (rw [if_pos (by omega), h1]; done))
    ·
      refine WL.move rfl rfl (WL.want rfl rfl rfl (WL.move rfl rfl (WL.want rfl rfl rfl (?_))))
      refine WL.gtr? rfl rfl rfl (fun h35 => ?_) (fun h35 => ?_)
      ·
        refine WL.pickF rfl rfl rfl (WL.nil (WX.then_normal (WC.cond_true rfl (WC.seq (WC.region (WL.assign rfl rfl (WL.nil (?_))))))))
        refine WX.then_normal (WC.ret (WX.then_ret (?_)))
        refine WX.ret1 (.inl rfl) Try.results43 rfl ?_
        first
          | (refine ⟨_, rfl, ?_, hw⟩
             rcases hall with ⟨h1, h2⟩ | ⟨h0, m, h1, h2⟩
             ·
               exfalso; omega
             ·
               obtain ⟨r0, hr0⟩ : ∃ r0, rs[0]? = some r0 := ⟨_, List.getElem?_eq_getElem (by omega)⟩
               have h3 := h2 0 r0 h0 hr0
               rw [lenC_bad (xss_mem hr) (xss_mem hr0) (by omega)])
          | (have hil : i = rs.length := by omega
             refine ⟨_, rfl, ?_, hw⟩
             rcases hall with ⟨h1, h2⟩ | ⟨h0, m, h1, h2⟩
             ·
               have : rs = [] := List.eq_nil_of_length_eq_zero (by omega)
               subst this
               first
                 | rfl
                 | (exfalso; omega)
             ·
               have hne : xss rs ≠ [] := fun e => by
                 have : (xss rs).length = 0 := by rw [e]; rfl
                 rw [xss, List.length_map] at this
                 omega
               have hall2 : ∀ d ∈ xss rs, d.length = m := by
                 intro d hd
                 obtain ⟨r, hr, rfl⟩ := List.mem_map.1 hd
                 obtain ⟨j, hj⟩ := List.getElem?_of_mem hr
                 exact h2 j r (by have := (List.getElem?_eq_some_iff.1 hj).1; omega) hj
               rw [lenC_of hne hall2]
               first
                 | (rw [if_neg (by omega)]; done)
                 | (rw [if_pos (by omega), h1]; done))
      ·
        refine WL.pickF rfl rfl rfl (WL.nil (WX.then_normal (WC.cond_false rfl (WC.skip (WX.then_normal (WC.seq (WC.region (?_))))))))
        refine WL.move rfl rfl (WL.assign rfl rfl (WL.nil (WX.then_normal (WC.ret (?_)))))
        refine WX.ret1 (.inl rfl) Try.results43 rfl ?_
        first
          | (refine ⟨_, rfl, ?_, hw⟩
             rcases hall with ⟨h1, h2⟩ | ⟨h0, m, h1, h2⟩
             ·
               exfalso; omega
             ·
               obtain ⟨r0, hr0⟩ : ∃ r0, rs[0]? = some r0 := ⟨_, List.getElem?_eq_getElem (by omega)⟩
               have h3 := h2 0 r0 h0 hr0
               rw [lenC_bad (xss_mem hr) (xss_mem hr0) (by omega)])
          | (have hil : i = rs.length := by omega
             refine ⟨_, rfl, ?_, hw⟩
             rcases hall with ⟨h1, h2⟩ | ⟨h0, m, h1, h2⟩
             ·
               have : rs = [] := List.eq_nil_of_length_eq_zero (by omega)
               subst this
               first
                 | rfl
                 | (exfalso; omega)
             ·
               have hne : xss rs ≠ [] := fun e => by
                 have : (xss rs).length = 0 := by rw [e]; rfl
                 rw [xss, List.length_map] at this
                 omega
               have hall2 : ∀ d ∈ xss rs, d.length = m := by
                 intro d hd
                 obtain ⟨r, hr, rfl⟩ := List.mem_map.1 hd
                 obtain ⟨j, hj⟩ := List.getElem?_of_mem hr
                 exact h2 j r (by have := (List.getElem?_eq_some_iff.1 hj).1; omega) hj
               rw [lenC_of hne hall2]
               first
                 | (rw [if_neg (by omega)]; done)
                 | (rw [if_pos (by omega), h1]; done))
end Go.Proofs.Ytjdbjdgobhjbkaa
