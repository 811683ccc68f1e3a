import Derived.MapKept
import Derived.Test.YtjdbjdgobhjbkaaQParityHeals5
namespace Go.HL
open Go.RowKit
/-- the length of the good ones of the first i columns; -1: there is none yet -/
def LInv (cols : List (List UInt8)) (bad : List Int) (i : Nat) (n : Int) : Prop :=
  (n = -1 ∧ ∀ j : Nat, j < i → (j : Int) ∈ bad) ∨ ∃ m : Nat, n = (m : Int) ∧ (∃ (j : Nat) (x : List UInt8), j < i ∧ cols[j]? = some x ∧ (j : Int) ∉ bad) ∧ ∀ (j : Nat) (x : List UInt8), j < i → cols[j]? = some x → (j : Int) ∉ bad → x.length = m
section
variable {cols : List (List UInt8)} {bad : List Int} {i : Nat} {n : Int} {x : List UInt8}
theorem LInv.start (cols : List (List UInt8)) (bad : List Int) : LInv cols bad 0 (-1) := .inl ⟨rfl, fun j h => absurd h (Nat.not_lt_zero j)⟩
theorem LInv.skip (h : LInv cols bad i n) (hb : (i : Int) ∈ bad) : LInv cols bad (i + 1) n := by
  rcases h with ⟨h1, h2⟩ | ⟨m, h1, ⟨j, x, hj, hx, hjb⟩, h2⟩
  · refine .inl ⟨h1, fun j hj => ?_⟩
    rcases Nat.lt_or_ge j i with h3 | h3
    · exact h2 j h3
    · rw [show j = i from by omega]; exact hb
  · refine .inr ⟨m, h1, ⟨j, x, by omega, hx, hjb⟩, fun j x hj hx hjb => ?_⟩
    rcases Nat.lt_or_ge j i with h3 | h3
    · exact h2 j x h3 hx hjb
    · rw [show j = i from by omega] at hjb; exact absurd hb hjb
theorem LInv.next (h : LInv cols bad i n) (hx : cols[i]? = some x) (hb : (i : Int) ∉ bad) (hn : ¬ (0 ≤ n ∧ (x.length : Int) ≠ n)) : LInv cols bad (i + 1) (x.length : Int) := by
  refine .inr ⟨x.length, rfl, ⟨i, x, by omega, hx, hb⟩, fun j y hj hy hjb => ?_⟩
  rcases Nat.lt_or_ge j i with h3 | h3
  · rcases h with ⟨h1, h2⟩ | ⟨m, h1, _, h2⟩
    · exact absurd (h2 j h3) hjb
    · have := h2 j y h3 hy hjb
      omega
  · have e : j = i := by omega
    rw [e, hx] at hy
    injection hy with hy
    rw [hy]
theorem LInv.uneven (h : LInv cols bad i n) (hx : cols[i]? = some x) (hb : (i : Int) ∉ bad) (hn : 0 ≤ n ∧ (x.length : Int) ≠ n) : lenB cols bad = -1 := by
  refine lenB_no ?_
  rintro ⟨m', _, _, h3⟩
  rcases h with ⟨h1, h2⟩ | ⟨m, h1, ⟨j, y, hj, hy, hjb⟩, h2⟩
  · omega
  · have a := h3 i x hx hb
    have b := h3 j y hy hjb
    have c := h2 j y hj hy hjb
    omega
theorem LInv.done (h : LInv cols bad i n) (hi : i = cols.length) : lenB cols bad = if n < 1 ∨ n > 4096 then -1 else n := by
  subst hi
  rcases h with ⟨h1, h2⟩ | ⟨m, h1, ⟨j, y, hj, hy, hjb⟩, h2⟩
  · rw [if_pos (by omega)]
    refine lenB_no ?_
    rintro ⟨m', _, ⟨j, x, hx, hjb⟩, _⟩
    exact hjb (h2 j (List.getElem?_eq_some_iff.1 hx).1)
  · by_cases hm : n < 1 ∨ n > 4096
    · rw [if_pos hm]
      refine lenB_no ?_
      rintro ⟨m', h5, _, h6⟩
      have a := h6 j y hy hjb
      have b := h2 j y hj hy hjb
      omega
    · rw [if_neg hm, h1]
      exact lenB_of ⟨by omega, ⟨j, y, hy, hjb⟩, fun j' x hx hb => h2 j' x (List.getElem?_eq_some_iff.1 hx).1 hx hb⟩
end
def OkTo (n : Nat) (bad : List Int) (i : Nat) : Prop := ∀ (j : Nat) (b : Int), j < i → bad[j]? = some b → (0 ≤ b ∧ b < n) ∧ ∀ c, 0 < j → bad[j - 1]? = some c → c < b
theorem OkTo.start (n : Nat) (bad : List Int) : OkTo n bad 0 := fun j _ h => absurd h (Nat.not_lt_zero j)
theorem OkTo.next {n : Nat} {bad : List Int} {i : Nat} {b : Int} (h : OkTo n bad i) (hb : bad[i]? = some b) (h1 : 0 ≤ b ∧ b < n) (h2 : ∀ c, 0 < i → bad[i - 1]? = some c → c < b) : OkTo n bad (i + 1) := fun j b' hj hb' => by
  rcases Nat.lt_or_ge j i with h3 | h3
  · exact h j b' h3 hb'
  · have e : j = i := by omega
    subst e
    rw [hb] at hb'
    injection hb' with hb'
    rw [← hb']
    exact ⟨h1, h2⟩
theorem OkTo.done {n : Nat} {bad : List Int} {i : Nat} (h : OkTo n bad i) (hi : i = bad.length) : OkBad n bad := fun j b hb => h j b (by rw [hi]; exact (List.getElem?_eq_some_iff.1 hb).1) hb
theorem OkBad.no {n : Nat} {bad : List Int} {i : Nat} {b : Int} (hb : bad[i]? = some b) (h : ¬ (0 ≤ b ∧ b < n)) : ¬ OkBad n bad := fun k => h (k i b hb).1
theorem OkBad.no2 {n : Nat} {bad : List Int} {i : Nat} {b c : Int} (hb : bad[i]? = some b) (hc : bad[i - 1]? = some c) (hi : 0 < i) (h : b ≤ c) : ¬ OkBad n bad := fun k => by
  have := (k i b hb).2 c hi hc
  omega
theorem errB_shape {cols : List (List UInt8)} {bad : List Int} (h : ¬ (4 ≤ cols.length ∧ cols.length ≤ 16)) : errB cols bad = 1 := by rw [errB, if_neg (fun k => h ⟨k.1, k.2.1⟩)]
theorem errB_bad {cols : List (List UInt8)} {bad : List Int} (h : ¬ OkBad cols.length bad) : errB cols bad = 1 := by rw [errB, if_neg (fun k => h k.2.2.1)]
theorem errB_len {cols : List (List UInt8)} {bad : List Int} (h : lenB cols bad < 0) : errB cols bad = 1 := by rw [errB, if_neg (fun k => by have := k.2.2.2; omega)]
theorem errB_ok {cols : List (List UInt8)} {bad : List Int} (h1 : 4 ≤ cols.length ∧ cols.length ≤ 16) (h2 : OkBad cols.length bad) (h3 : ¬ lenB cols bad < 0) : errB cols bad = if bad.length ≤ 3 then 0 else 4 := by rw [errB, if_pos ⟨h1.1, h1.2, h2, by omega⟩]
end Go.HL
namespace Go.Proofs.Ytjdbjdgobhjbkaa
open Go.RowKit Go.HL

set_option maxHeartbeats 1000000 in
theorem length_calls2 {S S2 : Nat → Prop} {w : World} {ao ab : Option Addr} {c cb : Nat} {rs : List Rw} {bad : List Int} (hc : RS S w ao c rs) (hb : RSl S2 w ei ab cb bad) (hl : rs.length * 24 ≤ 140737488351232) (hbl : bad.length ≤ 140737488351232) :
    Calls Try.prog 43 [.slice ao rs.length c, .slice ab bad.length cb].toArray w (Ret fun v w' => v = vi (lenB (xss rs) bad) ∧ Chg Nob w w') := by
  replace hc := hc.old
  replace hb := hb.old
  have hw := Chg.refl Nob w
  have hxl := xss_len rs
  refine Calls.of_WC Try.func43 rfl Try.ntmps43 (by simp) ?_
  refine WC.seq (WC.region (WL.assign rfl rfl (WL.nil (WX.then_normal (WC.seq (WC.region (WL.assign rfl rfl (?_))))))))
  refine WL.nil (WX.then_normal (WC.seq (WC.seq (WC.region (WL.move rfl rfl (WL.len Try.underlying22 rfl rfl (WL.move rfl rfl (?_))))))))
  refine WL.nil (WX.then_normal (WC.block (?_)))
  refine WC.loop (σ := Nat × Int) (fun q => [(1, .slice ab bad.length cb), (5, vi q.2), (8, .slice ao rs.length c), (9, vi rs.length), (10, vi q.1)])
    (fun q w' => q.1 ≤ rs.length ∧ LInv (xss rs) bad q.1 q.2 ∧ RS (· < w.heap.size) w' ao c rs ∧ RSl (· < w.heap.size) w' ei ab cb bad ∧ Chg Nob w w') (fun q => rs.length - q.1) (0, -1) ⟨rfl, rfl, rfl, rfl, rfl, trivial⟩ ⟨Nat.zero_le _, LInv.start _ _, hc, hb, hw⟩ ?_
  clear hc hb hw
  rintro ⟨i, n⟩ w2 ⟨hi, hI, hc, hb, hw⟩
  simp only at hi hI
  dsimp only
  refine WC.seq (WC.region (?_))
  refine WL.lss? rfl rfl rfl (fun h11 => ?_) (fun h11 => ?_)
  ·
    refine WL.nil (WX.then_normal (WC.seq (WC.cond_true rfl (WC.skip (WX.then_normal (WC.seq (WC.block (?_))))))))
    refine WC.seq (WC.region (WL.move rfl rfl (?_)))
    obtain ⟨r, hr⟩ : ∃ r, rs[i]? = some r := ⟨_, List.getElem?_eq_getElem (by omega)⟩
    have hrx := xss_at hr
    refine WL.indexT Try.underlying22 Try.sizeOf23 hc.outer rfl rfl ⟨hr, rfl⟩ rfl ?_
    intro b_1 o_1 hc_1
    refine WL.load Try.isAgg23 rfl (hc_1 0 _ rfl) rfl (WL.assign rfl rfl (WL.assign rfl rfl (WL.nil (WX.then_normal (WC.block (WC.seq (WC.region (?_))))))))
    refine WL.move rfl rfl (WL.move rfl rfl (?_))
    refine WL.call eg_39 rfl rfl (contains_calls hb hbl _) ?_
    rintro v w3 ⟨rfl, k⟩
    have zs_k := k.size
    replace hc := hc.pure k
    replace hb := hb.pure k
    replace hw := hw.pure k
    by_cases hbi : (i : Int) ∈ bad
    ·
      rw [decide_eq_true hbi]
      refine WL.assign rfl rfl (WL.nil (WX.then_normal (WC.cond_true rfl (WC.skip (WX.block_normal (WX.block_normal (WX.then_normal (?_))))))))
      refine WC.region (WL.add64 rfl rfl (by first | omega | (constructor <;> omega)) rfl (WL.move rfl rfl (WL.nil (?_))))
      first
        | exact WX.loop_next (i + 1, n) ⟨rfl, rfl, rfl, rfl, rfl, trivial⟩ ⟨by show i + 1 ≤ _; omega, hI.skip hbi, hc, hb, hw⟩ (by show rs.length - (i + 1) < rs.length - i; omega)
        | exact WX.loop_next (i + 1, (r.xs.length : Int)) ⟨rfl, rfl, rfl, rfl, rfl, trivial⟩ ⟨by show i + 1 ≤ _; omega, hI.next hrx hbi (by omega), hc, hb, hw⟩ (by show rs.length - (i + 1) < rs.length - i; omega)
    ·
      rw [decide_eq_false hbi]
      refine WL.assign rfl rfl (WL.nil (WX.then_normal (WC.cond_false rfl (WC.seq (WC.region (WL.move rfl rfl (?_)))))))
      refine WL.geq? rfl rfl rfl (fun h23 => ?_) (fun h23 => ?_)
      ·
        refine WL.move rfl rfl (WL.want rfl rfl rfl (WL.move rfl rfl (WL.want rfl rfl rfl (WL.len Try.underlying23 rfl rfl (WL.want rfl rfl rfl (WL.move rfl rfl (WL.want rfl rfl rfl (?_))))))))
        refine WL.neq? rfl rfl rfl (fun h28 => ?_) (fun h28 => ?_)
        ·
          refine WL.pickT rfl rfl rfl (WL.assign rfl rfl (WL.nil (WX.then_normal (WC.cond_true rfl (WC.seq (WC.region (WL.assign rfl rfl (?_))))))))
          refine WL.nil (WX.then_normal (WC.ret (WX.block_ret (WX.block_ret (WX.then_ret (WX.then_ret (WX.block_ret (?_))))))))
          refine WX.then_ret (?_)
          refine WX.ret1 (.inl rfl) Try.results43 rfl ?_
          first
            | (refine ⟨_, rfl, ?_, hw⟩
               rw [hI.uneven hrx hbi ⟨by omega, by omega⟩])
            | (refine ⟨_, rfl, ?_, hw⟩
               rw [hI.done (by omega)]
               first
                 | (rw [if_neg (by omega)]; done)
                 | (rw [if_pos (by omega)]; done))
        ·
          refine WL.pickT rfl rfl rfl (WL.assign rfl rfl (WL.nil (WX.then_normal (WC.cond_false rfl (WC.region (WL.move rfl rfl (WL.len Try.underlying23 rfl rfl (?_))))))))
          refine WL.assign rfl rfl (WL.nil (WX.block_normal (WX.block_normal (WX.then_normal (WC.region (WL.add64 rfl rfl (by first | omega | (constructor <;> omega)) rfl (WL.move rfl rfl (?_))))))))
          refine WL.nil (?_)
          first
            | exact WX.loop_next (i + 1, n) ⟨rfl, rfl, rfl, rfl, rfl, trivial⟩ ⟨by show i + 1 ≤ _; omega, hI.skip hbi, hc, hb, hw⟩ (by show rs.length - (i + 1) < rs.length - i; omega)
            | exact WX.loop_next (i + 1, (r.xs.length : Int)) ⟨rfl, rfl, rfl, rfl, rfl, trivial⟩ ⟨by show i + 1 ≤ _; omega, hI.next hrx hbi (by omega), hc, hb, hw⟩ (by show rs.length - (i + 1) < rs.length - i; omega)
      ·
        refine WL.move rfl rfl (WL.pass rfl rfl rfl rfl (WL.pass rfl rfl rfl rfl (WL.pass rfl rfl rfl rfl (WL.pass rfl rfl rfl rfl (WL.pickF rfl rfl rfl (WL.assign rfl rfl (WL.nil (?_))))))))
        refine WX.then_normal (WC.cond_false rfl (WC.region (WL.move rfl rfl (WL.len Try.underlying23 rfl rfl (WL.assign rfl rfl (WL.nil (WX.block_normal (?_))))))))
        refine WX.block_normal (WX.then_normal (WC.region (WL.add64 rfl rfl (by first | omega | (constructor <;> omega)) rfl (WL.move rfl rfl (WL.nil (?_))))))
        first
          | exact WX.loop_next (i + 1, n) ⟨rfl, rfl, rfl, rfl, rfl, trivial⟩ ⟨by show i + 1 ≤ _; omega, hI.skip hbi, hc, hb, hw⟩ (by show rs.length - (i + 1) < rs.length - i; omega)
          | exact WX.loop_next (i + 1, (r.xs.length : Int)) ⟨rfl, rfl, rfl, rfl, rfl, trivial⟩ ⟨by show i + 1 ≤ _; omega, hI.next hrx hbi (by omega), hc, hb, hw⟩ (by show rs.length - (i + 1) < rs.length - i; omega)
  ·
    refine WL.nil (WX.then_normal (WC.seq (WC.cond_false rfl (WC.exit (WX.then_exit (WX.then_exit (WX.block_here (?_))))))))
    refine WX.then_normal (WC.seq (WC.seq (WC.region (WL.move rfl rfl (?_)))))
    refine WL.lss? rfl rfl rfl (fun h32 => ?_) (fun h32 => ?_)
    ·
      refine WL.move rfl rfl (WL.pass rfl rfl rfl rfl (WL.pass rfl rfl rfl rfl (WL.pickT rfl rfl rfl (WL.nil (WX.then_normal (WC.cond_true rfl (WC.seq (?_))))))))
      refine WC.region (WL.assign rfl rfl (WL.nil (WX.then_normal (WC.ret (WX.then_ret (?_))))))
      refine WX.ret1 (.inl rfl) Try.results43 rfl ?_
      first
        | (refine ⟨_, rfl, ?_, hw⟩
           rw [hI.uneven hrx hbi ⟨by omega, by omega⟩])
        | (refine ⟨_, rfl, ?_, hw⟩
           rw [hI.done (by omega)]
           first
             | (rw [if_neg (by omega)]; done)
             | (rw [if_pos (by omega)]; done))
    ·
      refine WL.move rfl rfl (WL.want rfl rfl rfl (WL.move rfl rfl (WL.want rfl rfl rfl (?_))))
      refine WL.gtr? rfl rfl rfl (fun h35 => ?_) (fun h35 => ?_)
      ·
        refine WL.pickF rfl rfl rfl (WL.nil (WX.then_normal (WC.cond_true rfl (WC.seq (WC.region (WL.assign rfl rfl (WL.nil (?_))))))))
        refine WX.then_normal (WC.ret (WX.then_ret (?_)))
        refine WX.ret1 (.inl rfl) Try.results43 rfl ?_
        first
          | (refine ⟨_, rfl, ?_, hw⟩
             rw [hI.uneven hrx hbi ⟨by omega, by omega⟩])
          | (refine ⟨_, rfl, ?_, hw⟩
             rw [hI.done (by omega)]
             first
               | (rw [if_neg (by omega)]; done)
               | (rw [if_pos (by omega)]; done))
      ·
        refine WL.pickF rfl rfl rfl (WL.nil (WX.then_normal (WC.cond_false rfl (WC.skip (WX.then_normal (WC.seq (WC.region (?_))))))))
        refine WL.move rfl rfl (WL.assign rfl rfl (WL.nil (WX.then_normal (WC.ret (?_)))))
        refine WX.ret1 (.inl rfl) Try.results43 rfl ?_
        first
          | (refine ⟨_, rfl, ?_, hw⟩
             rw [hI.uneven hrx hbi ⟨by omega, by omega⟩])
          | (refine ⟨_, rfl, ?_, hw⟩
             rw [hI.done (by omega)]
             first
               | (rw [if_neg (by omega)]; done)
               | (rw [if_pos (by omega)]; done))
set_option maxHeartbeats 1000000 in
theorem right_calls {S S2 : Nat → Prop} {w : World} {ao ab : Option Addr} {c cb : Nat} {rs : List Rw} {bad : List Int} (hc : RS S w ao c rs) (hb : RSl S2 w ei ab cb bad) (hl : rs.length * 24 ≤ 140737488351232) (hbl : bad.length ≤ 140737488351232) :
    Calls Try.prog 38 [.slice ao rs.length c, .slice ab bad.length cb].toArray w (Ret fun v w' => v = .tuple #[vi (if errB (xss rs) bad = 0 then lenB (xss rs) bad else 0), vi (errB (xss rs) bad)] ∧ Chg Nob w w') := by
  replace hc := hc.old
  replace hb := hb.old
  have hw := Chg.refl Nob w
  have hxl := xss_len rs
  refine Calls.of_WC Try.func38 rfl Try.ntmps38 (by simp) ?_
  refine WC.seq (WC.region (WL.assign rfl rfl (WL.assign rfl rfl (WL.nil (WX.then_normal (WC.seq (WC.seq (?_))))))))
  refine WC.region (WL.move rfl rfl (WL.len Try.underlying22 rfl rfl (?_)))
  refine WL.lss? rfl rfl rfl (fun h11 => ?_) (fun h11 => ?_)
  ·
    refine WL.move rfl rfl (WL.pass rfl rfl rfl rfl (WL.pass rfl rfl rfl rfl (WL.pass rfl rfl rfl rfl (WL.pickT rfl rfl rfl (WL.nil (WX.then_normal (WC.cond_true rfl (?_))))))))
    refine WC.seq (WC.region (WL.assign rfl rfl (WL.assign rfl rfl (WL.nil (WX.then_normal (WC.ret (WX.then_ret (?_))))))))
    refine WX.ret2 (.inl rfl) Try.results38 rfl rfl ?_
    first
      | (refine ⟨_, rfl, ?_, hw⟩
         rw [errB_shape (by omega)]
         rfl)
      | (refine ⟨_, rfl, ?_, hw⟩
         rw [errB_bad (by rw [hxl]; exact OkBad.no hbi (by omega))]
         rfl)
      | (refine ⟨_, rfl, ?_, hw⟩
         rw [errB_bad (by rw [hxl]; exact OkBad.no2 hbi hd (by omega) (by omega))]
         rfl)
      | (refine ⟨_, rfl, ?_, hw⟩
         rw [errB_len (by omega)]
         rfl)
      | (refine ⟨_, rfl, ?_, hw⟩
         rw [errB_ok (by omega) hok (by omega), if_neg (show ¬ bad.length ≤ 3 by omega)]
         rfl)
      | (refine ⟨_, rfl, ?_, hw⟩
         rw [errB_ok (by omega) hok (by omega), if_pos (show bad.length ≤ 3 by omega)]
         rfl)
  ·
    refine WL.move rfl rfl (WL.want rfl rfl rfl (WL.move rfl rfl (WL.want rfl rfl rfl (WL.len Try.underlying22 rfl rfl (WL.want rfl rfl rfl (?_))))))
    refine WL.gtr? rfl rfl rfl (fun h15 => ?_) (fun h15 => ?_)
    ·
      refine WL.pickF rfl rfl rfl (WL.nil (WX.then_normal (WC.cond_true rfl (WC.seq (WC.region (WL.assign rfl rfl (WL.assign rfl rfl (?_))))))))
      refine WL.nil (WX.then_normal (WC.ret (WX.then_ret (?_))))
      refine WX.ret2 (.inl rfl) Try.results38 rfl rfl ?_
      first
        | (refine ⟨_, rfl, ?_, hw⟩
           rw [errB_shape (by omega)]
           rfl)
        | (refine ⟨_, rfl, ?_, hw⟩
           rw [errB_bad (by rw [hxl]; exact OkBad.no hbi (by omega))]
           rfl)
        | (refine ⟨_, rfl, ?_, hw⟩
           rw [errB_bad (by rw [hxl]; exact OkBad.no2 hbi hd (by omega) (by omega))]
           rfl)
        | (refine ⟨_, rfl, ?_, hw⟩
           rw [errB_len (by omega)]
           rfl)
        | (refine ⟨_, rfl, ?_, hw⟩
           rw [errB_ok (by omega) hok (by omega), if_neg (show ¬ bad.length ≤ 3 by omega)]
           rfl)
        | (refine ⟨_, rfl, ?_, hw⟩
           rw [errB_ok (by omega) hok (by omega), if_pos (show bad.length ≤ 3 by omega)]
           rfl)
    ·
      refine WL.pickF rfl rfl rfl (WL.nil (WX.then_normal (WC.cond_false rfl (WC.skip (WX.then_normal (WC.seq (WC.seq (?_))))))))
      refine WC.region (WL.move rfl rfl (WL.len Try.underlying33 rfl rfl (WL.move rfl rfl (WL.nil (WX.then_normal (WC.block (?_)))))))
      refine WC.loop (σ := Nat) (fun i => [(0, .slice ao rs.length c), (1, .slice ab bad.length cb), (17, .slice ab bad.length cb), (18, vi bad.length), (19, vi i)])
        (fun i w' => i ≤ bad.length ∧ OkTo rs.length bad i ∧ RS (· < w.heap.size) w' ao c rs ∧ RSl (· < w.heap.size) w' ei ab cb bad ∧ Chg Nob w w') (fun i => bad.length - i) 0 ⟨rfl, rfl, rfl, rfl, rfl, trivial⟩ ⟨Nat.zero_le _, OkTo.start _ _, hc, hb, hw⟩ ?_
      clear hc hb hw
      rintro i w2 ⟨hi, hI, hc, hb, hw⟩
      refine WC.seq (WC.region (?_))
      refine WL.lss? rfl rfl rfl (fun h20 => ?_) (fun h20 => ?_)
      ·
        refine WL.nil (WX.then_normal (WC.seq (WC.cond_true rfl (WC.skip (WX.then_normal (WC.seq (WC.block (?_))))))))
        refine WC.seq (WC.region (WL.move rfl rfl (?_)))
        obtain ⟨b, hbi⟩ : ∃ b, bad[i]? = some b := ⟨_, List.getElem?_eq_getElem (by omega)⟩
        refine WL.indexT Try.underlying33 Try.sizeOf3 hb rfl rfl ⟨hbi, rfl⟩ rfl ?_
        intro b_1 o_1 hc_1
        refine WL.load Try.isAgg3 rfl (hc_1 0 _ rfl) rfl (WL.assign rfl rfl (WL.assign rfl rfl (WL.nil (WX.then_normal (WC.seq (WC.region (WL.move rfl rfl (?_))))))))
        refine WL.lss? rfl rfl rfl (fun h25 => ?_) (fun h25 => ?_)
        ·
          refine WL.move rfl rfl (WL.pass rfl rfl rfl rfl (WL.pass rfl rfl rfl rfl (WL.pass rfl rfl rfl rfl (WL.pass rfl rfl rfl rfl (WL.pickT rfl rfl rfl (WL.move rfl rfl (WL.pass rfl rfl rfl rfl (?_))))))))
          refine WL.pass rfl rfl rfl rfl (WL.pass rfl rfl rfl rfl (WL.passU rfl rfl rfl (WL.passU rfl rfl rfl (WL.passU rfl rfl rfl (WL.passU rfl rfl rfl (WL.passU rfl rfl rfl (WL.passU rfl rfl rfl (?_))))))))
          refine WL.passU rfl rfl rfl (WL.pass rfl rfl rfl rfl (WL.pickT rfl rfl rfl (WL.nil (WX.then_normal (WC.cond_true rfl (WC.seq (WC.region (?_))))))))
          refine WL.assign rfl rfl (WL.assign rfl rfl (WL.nil (WX.then_normal (WC.ret (WX.block_ret (WX.then_ret (WX.then_ret (?_))))))))
          refine WX.block_ret (WX.then_ret (?_))
          refine WX.ret2 (.inl rfl) Try.results38 rfl rfl ?_
          first
            | (refine ⟨_, rfl, ?_, hw⟩
               rw [errB_shape (by omega)]
               rfl)
            | (refine ⟨_, rfl, ?_, hw⟩
               rw [errB_bad (by rw [hxl]; exact OkBad.no hbi (by omega))]
               rfl)
            | (refine ⟨_, rfl, ?_, hw⟩
               rw [errB_bad (by rw [hxl]; exact OkBad.no2 hbi hd (by omega) (by omega))]
               rfl)
            | (refine ⟨_, rfl, ?_, hw⟩
               rw [errB_len (by omega)]
               rfl)
            | (refine ⟨_, rfl, ?_, hw⟩
               rw [errB_ok (by omega) hok (by omega), if_neg (show ¬ bad.length ≤ 3 by omega)]
               rfl)
            | (refine ⟨_, rfl, ?_, hw⟩
               rw [errB_ok (by omega) hok (by omega), if_pos (show bad.length ≤ 3 by omega)]
               rfl)
        ·
          refine WL.move rfl rfl (WL.want rfl rfl rfl (WL.move rfl rfl (WL.want rfl rfl rfl (WL.move rfl rfl (WL.want rfl rfl rfl (WL.len Try.underlying22 rfl rfl (WL.want rfl rfl rfl (?_))))))))
          refine WL.geq? rfl rfl rfl (fun h30 => ?_) (fun h30 => ?_)
          ·
            refine WL.pickF rfl rfl rfl (WL.move rfl rfl (WL.pass rfl rfl rfl rfl (WL.pass rfl rfl rfl rfl (WL.pass rfl rfl rfl rfl (WL.passU rfl rfl rfl (WL.passU rfl rfl rfl (WL.passU rfl rfl rfl (?_))))))))
            refine WL.passU rfl rfl rfl (WL.passU rfl rfl rfl (WL.passU rfl rfl rfl (WL.passU rfl rfl rfl (WL.pass rfl rfl rfl rfl (WL.pickT rfl rfl rfl (WL.nil (WX.then_normal (?_))))))))
            refine WC.cond_true rfl (WC.seq (WC.region (WL.assign rfl rfl (WL.assign rfl rfl (WL.nil (WX.then_normal (WC.ret (?_))))))))
            refine WX.block_ret (WX.then_ret (WX.then_ret (WX.block_ret (WX.then_ret (?_)))))
            refine WX.ret2 (.inl rfl) Try.results38 rfl rfl ?_
            first
              | (refine ⟨_, rfl, ?_, hw⟩
                 rw [errB_shape (by omega)]
                 rfl)
              | (refine ⟨_, rfl, ?_, hw⟩
                 rw [errB_bad (by rw [hxl]; exact OkBad.no hbi (by omega))]
                 rfl)
              | (refine ⟨_, rfl, ?_, hw⟩
                 rw [errB_bad (by rw [hxl]; exact OkBad.no2 hbi hd (by omega) (by omega))]
                 rfl)
              | (refine ⟨_, rfl, ?_, hw⟩
                 rw [errB_len (by omega)]
                 rfl)
              | (refine ⟨_, rfl, ?_, hw⟩
                 rw [errB_ok (by omega) hok (by omega), if_neg (show ¬ bad.length ≤ 3 by omega)]
                 rfl)
              | (refine ⟨_, rfl, ?_, hw⟩
                 rw [errB_ok (by omega) hok (by omega), if_pos (show bad.length ≤ 3 by omega)]
                 rfl)
          ·
            refine WL.pickF rfl rfl rfl (WL.move rfl rfl (WL.want rfl rfl rfl (WL.move rfl rfl (WL.want rfl rfl rfl (?_)))))
            refine WL.gtr? rfl rfl rfl (fun h34 => ?_) (fun h34 => ?_)
            ·
              refine WL.want rfl rfl rfl (WL.move rfl rfl (WL.want rfl rfl rfl (WL.move rfl rfl (WL.want rfl rfl rfl (WL.move rfl rfl (WL.want rfl rfl rfl (WL.move rfl rfl (?_))))))))
              refine WL.want rfl rfl rfl (?_)
              obtain ⟨d, hd⟩ : ∃ d, bad[i - 1]? = some d := ⟨_, List.getElem?_eq_getElem (by omega)⟩
              refine WL.sub64 rfl rfl (by constructor <;> omega) rfl ?_
              rw [show ((i : Int) - 1) = ((i - 1 : Nat) : Int) from by omega]
              refine WL.want rfl rfl rfl (?_)
              refine WL.indexT Try.underlying33 Try.sizeOf3 hb rfl rfl ⟨hd, rfl⟩ rfl ?_
              intro b_2 o_2 hc_2
              refine WL.want rfl rfl rfl (WL.load Try.isAgg3 rfl (hc_2 0 _ rfl) rfl (WL.want rfl rfl rfl (?_)))
              refine WL.leq? rfl rfl rfl (fun h42 => ?_) (fun h42 => ?_)
              ·
                refine WL.want rfl rfl rfl (WL.pickT rfl rfl rfl (WL.pickF rfl rfl rfl (WL.nil (WX.then_normal (WC.cond_true rfl (WC.seq (WC.region (?_))))))))
                refine WL.assign rfl rfl (WL.assign rfl rfl (WL.nil (WX.then_normal (WC.ret (WX.block_ret (WX.then_ret (WX.then_ret (?_))))))))
                refine WX.block_ret (WX.then_ret (?_))
                refine WX.ret2 (.inl rfl) Try.results38 rfl rfl ?_
                first
                  | (refine ⟨_, rfl, ?_, hw⟩
                     rw [errB_shape (by omega)]
                     rfl)
                  | (refine ⟨_, rfl, ?_, hw⟩
                     rw [errB_bad (by rw [hxl]; exact OkBad.no hbi (by omega))]
                     rfl)
                  | (refine ⟨_, rfl, ?_, hw⟩
                     rw [errB_bad (by rw [hxl]; exact OkBad.no2 hbi hd (by omega) (by omega))]
                     rfl)
                  | (refine ⟨_, rfl, ?_, hw⟩
                     rw [errB_len (by omega)]
                     rfl)
                  | (refine ⟨_, rfl, ?_, hw⟩
                     rw [errB_ok (by omega) hok (by omega), if_neg (show ¬ bad.length ≤ 3 by omega)]
                     rfl)
                  | (refine ⟨_, rfl, ?_, hw⟩
                     rw [errB_ok (by omega) hok (by omega), if_pos (show bad.length ≤ 3 by omega)]
                     rfl)
              ·
                refine WL.want rfl rfl rfl (WL.pickT rfl rfl rfl (WL.pickF rfl rfl rfl (WL.nil (WX.then_normal (WC.cond_false rfl (WC.skip (WX.block_normal (?_))))))))
                refine WX.then_normal (WC.region (WL.add64 rfl rfl (by first | omega | (constructor <;> omega)) rfl (WL.move rfl rfl (WL.nil (?_)))))
                exact WX.loop_next (i + 1) ⟨rfl, rfl, rfl, rfl, rfl, trivial⟩ ⟨by omega, hI.next hbi ⟨by omega, by omega⟩ (fun c' h1 h2 => by first | (rw [hd] at h2; injection h2; omega) | omega), hc, hb, hw⟩ (by show bad.length - (i + 1) < bad.length - i; omega)
            ·
              refine WL.want rfl rfl rfl (WL.move rfl rfl (WL.pass rfl rfl rfl rfl (WL.pass rfl rfl rfl rfl (WL.pass rfl rfl rfl rfl (WL.pass rfl rfl rfl rfl (WL.pass rfl rfl rfl rfl (WL.pass rfl rfl rfl rfl (?_))))))))
              refine WL.pass rfl rfl rfl rfl (WL.want rfl rfl rfl (WL.pickF rfl rfl rfl (WL.pickF rfl rfl rfl (WL.nil (WX.then_normal (WC.cond_false rfl (WC.skip (?_))))))))
              refine WX.block_normal (WX.then_normal (WC.region (WL.add64 rfl rfl (by first | omega | (constructor <;> omega)) rfl (WL.move rfl rfl (WL.nil (?_))))))
              exact WX.loop_next (i + 1) ⟨rfl, rfl, rfl, rfl, rfl, trivial⟩ ⟨by omega, hI.next hbi ⟨by omega, by omega⟩ (fun c' h1 h2 => by first | (rw [hd] at h2; injection h2; omega) | omega), hc, hb, hw⟩ (by show bad.length - (i + 1) < bad.length - i; omega)
      ·
        refine WL.nil (WX.then_normal (WC.seq (WC.cond_false rfl (WC.exit (WX.then_exit (WX.then_exit (WX.block_here (?_))))))))
        refine WX.then_normal (WC.seq (WC.region (WL.move rfl rfl (WL.move rfl rfl (?_)))))
        have hok : OkBad (xss rs).length bad := by rw [hxl]; exact hI.done (by omega)
        refine WL.call eg_43 rfl rfl (length_calls2 hc hb hl hbl) ?_
        rintro v w1 ⟨rfl, k⟩
        have zs_k := k.size
        replace hc := hc.pure k
        replace hb := hb.pure k
        replace hw := hw.pure k
        refine WL.assign rfl rfl (WL.nil (WX.then_normal (WC.seq (WC.block (WC.seq (WC.region (WL.move rfl rfl (?_))))))))
        refine WL.lss? rfl rfl rfl (fun h51 => ?_) (fun h51 => ?_)
        ·
          refine WL.assign rfl rfl (WL.nil (WX.then_normal (WC.cond_true rfl (WC.seq (WC.region (WL.assign rfl rfl (WL.assign rfl rfl (?_))))))))
          refine WL.nil (WX.then_normal (WC.ret (WX.block_ret (WX.then_ret (?_)))))
          refine WX.ret2 (.inl rfl) Try.results38 rfl rfl ?_
          first
            | (refine ⟨_, rfl, ?_, hw⟩
               rw [errB_shape (by omega)]
               rfl)
            | (refine ⟨_, rfl, ?_, hw⟩
               rw [errB_bad (by rw [hxl]; exact OkBad.no hbi (by omega))]
               rfl)
            | (refine ⟨_, rfl, ?_, hw⟩
               rw [errB_bad (by rw [hxl]; exact OkBad.no2 hbi hd (by omega) (by omega))]
               rfl)
            | (refine ⟨_, rfl, ?_, hw⟩
               rw [errB_len (by omega)]
               rfl)
            | (refine ⟨_, rfl, ?_, hw⟩
               rw [errB_ok (by omega) hok (by omega), if_neg (show ¬ bad.length ≤ 3 by omega)]
               rfl)
            | (refine ⟨_, rfl, ?_, hw⟩
               rw [errB_ok (by omega) hok (by omega), if_pos (show bad.length ≤ 3 by omega)]
               rfl)
        ·
          refine WL.assign rfl rfl (WL.nil (WX.then_normal (WC.cond_false rfl (WC.seq (WC.region (WL.move rfl rfl (WL.len Try.underlying33 rfl rfl (?_))))))))
          refine WL.gtr? rfl rfl rfl (fun h55 => ?_) (fun h55 => ?_)
          ·
            refine WL.assign rfl rfl (WL.nil (WX.then_normal (WC.cond_true rfl (WC.seq (WC.region (WL.assign rfl rfl (WL.assign rfl rfl (?_))))))))
            refine WL.nil (WX.then_normal (WC.ret (WX.block_ret (WX.then_ret (?_)))))
            refine WX.ret2 (.inl rfl) Try.results38 rfl rfl ?_
            first
              | (refine ⟨_, rfl, ?_, hw⟩
                 rw [errB_shape (by omega)]
                 rfl)
              | (refine ⟨_, rfl, ?_, hw⟩
                 rw [errB_bad (by rw [hxl]; exact OkBad.no hbi (by omega))]
                 rfl)
              | (refine ⟨_, rfl, ?_, hw⟩
                 rw [errB_bad (by rw [hxl]; exact OkBad.no2 hbi hd (by omega) (by omega))]
                 rfl)
              | (refine ⟨_, rfl, ?_, hw⟩
                 rw [errB_len (by omega)]
                 rfl)
              | (refine ⟨_, rfl, ?_, hw⟩
                 rw [errB_ok (by omega) hok (by omega), if_neg (show ¬ bad.length ≤ 3 by omega)]
                 rfl)
              | (refine ⟨_, rfl, ?_, hw⟩
                 rw [errB_ok (by omega) hok (by omega), if_pos (show bad.length ≤ 3 by omega)]
                 rfl)
          ·
            refine WL.assign rfl rfl (WL.nil (WX.then_normal (WC.cond_false rfl (WC.skip (WX.block_normal (WX.then_normal (WC.seq (?_))))))))
            refine WC.region (WL.move rfl rfl (WL.assign rfl rfl (WL.assign rfl rfl (WL.nil (WX.then_normal (WC.ret (?_)))))))
            refine WX.ret2 (.inl rfl) Try.results38 rfl rfl ?_
            first
              | (refine ⟨_, rfl, ?_, hw⟩
                 rw [errB_shape (by omega)]
                 rfl)
              | (refine ⟨_, rfl, ?_, hw⟩
                 rw [errB_bad (by rw [hxl]; exact OkBad.no hbi (by omega))]
                 rfl)
              | (refine ⟨_, rfl, ?_, hw⟩
                 rw [errB_bad (by rw [hxl]; exact OkBad.no2 hbi hd (by omega) (by omega))]
                 rfl)
              | (refine ⟨_, rfl, ?_, hw⟩
                 rw [errB_len (by omega)]
                 rfl)
              | (refine ⟨_, rfl, ?_, hw⟩
                 rw [errB_ok (by omega) hok (by omega), if_neg (show ¬ bad.length ≤ 3 by omega)]
                 rfl)
              | (refine ⟨_, rfl, ?_, hw⟩
                 rw [errB_ok (by omega) hok (by omega), if_pos (show bad.length ≤ 3 by omega)]
                 rfl)
end Go.Proofs.Ytjdbjdgobhjbkaa
namespace Go.Proofs.Ytjdbjdgobhjbkaa
open Go.RowKit Go.HL

theorem has_calls {S : Nat → Prop} {w : World} {ao : Option Addr} {c : Nat} {l : List Int} (hr : RSl S w ei ao c l) (hll : l.length ≤ 140737488351232) (x : Int) :
    Calls Try.prog 35 [.slice ao l.length c, vi x].toArray w (Ret fun v w' => v = .bool (decide (x ∈ l)) ∧ Chg Nob w w') := by
  replace hr := hr.old
  have hw := Chg.refl Nob w
  refine Calls.of_WC Try.func35 rfl Try.ntmps35 (by simp) ?_
  refine WC.seq (WC.region (WL.assign rfl rfl (WL.nil (WX.then_normal (WC.seq (WC.seq (WC.region (?_))))))))
  refine WL.assign rfl rfl (WL.nil (WX.then_normal (WC.block (?_))))
  refine WC.loop (σ := Nat) (fun i => [(0, .slice ao l.length c), (1, vi x), (5, vi i)])
    (fun i w' => i ≤ l.length ∧ (∀ j : Nat, j < i → l[j]? ≠ some x) ∧ RSl (· < w.heap.size) w' ei ao c l ∧ Chg Nob w w') (fun i => l.length - i) 0 ⟨rfl, rfl, rfl, trivial⟩ ⟨Nat.zero_le _, fun j h => absurd h (by omega), hr, hw⟩ ?_
  clear hr hw
  rintro i w2 ⟨hi, hall, hr, hw⟩
  refine WC.seq (WC.seq (WC.region (WL.move rfl rfl (WL.move rfl rfl (WL.len Try.underlying33 rfl rfl (?_))))))
  refine WL.lss? rfl rfl rfl (fun h9 => ?_) (fun h9 => ?_)
  ·
    refine WL.nil (WX.then_normal (WC.cond_true rfl (WC.skip (WX.then_normal (WC.seq (WC.block (WC.seq (?_))))))))
    refine WC.region (WL.move rfl rfl (WL.move rfl rfl (?_)))
    obtain ⟨y, hy⟩ : ∃ y, l[i]? = some y := ⟨_, List.getElem?_eq_getElem (by omega)⟩
    refine WL.indexT Try.underlying33 Try.sizeOf3 hr rfl rfl ⟨hy, rfl⟩ rfl ?_
    intro b_1 o_1 hc_1
    refine WL.load Try.isAgg3 rfl (hc_1 0 _ rfl) rfl (WL.move rfl rfl (?_))
    refine WL.eql? rfl rfl rfl (fun h17 => ?_) (fun h17 => ?_)
    ·
      refine WL.nil (WX.then_normal (WC.cond_true rfl (WC.seq (WC.region (WL.assign rfl rfl (WL.nil (WX.then_normal (?_))))))))
      refine WC.ret (WX.block_ret (WX.then_ret (WX.then_ret (WX.block_ret (WX.then_ret (?_))))))
      refine WX.ret1 (.inl rfl) Try.results35 rfl ?_
      first
        | (refine ⟨_, rfl, congrArg Value.bool (decide_eq_true ?_).symm, hw⟩
           rw [← h17]
           exact List.mem_of_getElem? hy)
        | (refine ⟨_, rfl, congrArg Value.bool (decide_eq_false (fun h => ?_)).symm, hw⟩
           obtain ⟨j, hj⟩ := List.getElem?_of_mem h
           have hjl := (List.getElem?_eq_some_iff.1 hj).1
           exact absurd hj (hall j (by omega)))
    ·
      refine WL.nil (WX.then_normal (WC.cond_false rfl (WC.skip (WX.block_normal (WX.then_normal (WC.region (WL.move rfl rfl (?_))))))))
      refine WL.add64 rfl rfl (by first | omega | (constructor <;> omega)) rfl (WL.assign rfl rfl (WL.nil (?_)))
      refine WX.loop_next (i + 1) ⟨rfl, rfl, rfl, trivial⟩ ⟨by omega, fun j h => ?_, hr, hw⟩ (by show _ - _ < _ - _; omega)
      rcases Nat.lt_or_ge j i with h3 | h3
      ·
        exact hall j h3
      ·
        rw [show j = i from by omega, hy]
        exact fun e => h17 (by injection e)
  ·
    refine WL.nil (WX.then_normal (WC.cond_false rfl (WC.exit (WX.then_exit (WX.then_exit (WX.block_here (WX.then_normal (?_))))))))
    refine WC.seq (WC.region (WL.assign rfl rfl (WL.nil (WX.then_normal (WC.ret (?_))))))
    refine WX.ret1 (.inl rfl) Try.results35 rfl ?_
    first
      | (refine ⟨_, rfl, congrArg Value.bool (decide_eq_true ?_).symm, hw⟩
         rw [← h17]
         exact List.mem_of_getElem? hy)
      | (refine ⟨_, rfl, congrArg Value.bool (decide_eq_false (fun h => ?_)).symm, hw⟩
         obtain ⟨j, hj⟩ := List.getElem?_of_mem h
         have hjl := (List.getElem?_eq_some_iff.1 hj).1
         exact absurd hj (hall j (by omega)))
set_option maxHeartbeats 1000000 in
theorem even_calls2 {S S2 : Nat → Prop} {w : World} {ao ab : Option Addr} {c cb : Nat} {rs : List Rw} {bad : List Int} (hc : RS S w ao c rs) (hb : RSl S2 w ei ab cb bad) (hl : rs.length * 24 ≤ 140737488351232) (hbl : bad.length ≤ 140737488351232) :
    Calls Try.prog 34 [.slice ao rs.length c, .slice ab bad.length cb].toArray w (Ret fun v w' => v = vi (lenB (xss rs) bad) ∧ Chg Nob w w') := by
  replace hc := hc.old
  replace hb := hb.old
  have hw := Chg.refl Nob w
  have hxl := xss_len rs
  refine Calls.of_WC Try.func34 rfl Try.ntmps34 (by simp) ?_
  refine WC.seq (WC.region (WL.assign rfl rfl (WL.nil (WX.then_normal (WC.seq (WC.region (WL.assign rfl rfl (?_))))))))
  refine WL.nil (WX.then_normal (WC.seq (WC.seq (WC.region (WL.assign rfl rfl (WL.nil (WX.then_normal (?_))))))))
  refine WC.block (?_)
  refine WC.loop (σ := Nat × Int) (fun q => [(0, .slice ao rs.length c), (1, .slice ab bad.length cb), (5, vi q.2), (6, vi q.1)])
    (fun q w' => q.1 ≤ rs.length ∧ LInv (xss rs) bad q.1 q.2 ∧ RS (· < w.heap.size) w' ao c rs ∧ RSl (· < w.heap.size) w' ei ab cb bad ∧ Chg Nob w w') (fun q => rs.length - q.1) (0, -1) ⟨rfl, rfl, rfl, rfl, trivial⟩ ⟨Nat.zero_le _, LInv.start _ _, hc, hb, hw⟩ ?_
  clear hc hb hw
  rintro ⟨i, n⟩ w2 ⟨hi, hI, hc, hb, hw⟩
  simp only at hi hI
  dsimp only
  refine WC.seq (WC.seq (WC.region (WL.move rfl rfl (WL.move rfl rfl (WL.len Try.underlying22 rfl rfl (?_))))))
  refine WL.lss? rfl rfl rfl (fun h10 => ?_) (fun h10 => ?_)
  ·
    refine WL.nil (WX.then_normal (WC.cond_true rfl (WC.skip (WX.then_normal (WC.seq (WC.block (WC.seq (?_))))))))
    refine WC.seq (WC.region (WL.move rfl rfl (WL.move rfl rfl (?_))))
    obtain ⟨r, hr⟩ : ∃ r, rs[i]? = some r := ⟨_, List.getElem?_eq_getElem (by omega)⟩
    have hrx := xss_at hr
    refine WL.call eg_35 rfl rfl (has_calls hb hbl _) ?_
    rintro v w3 ⟨rfl, k⟩
    have zs_k := k.size
    replace hc := hc.pure k
    replace hb := hb.pure k
    replace hw := hw.pure k
    by_cases hbi : (i : Int) ∈ bad
    ·
      rw [decide_eq_true hbi]
      refine WL.nil (WX.then_normal (WC.cond_true rfl (WC.exit (WX.then_exit (WX.block_here (WX.then_normal (WC.region (?_))))))))
      refine WL.move rfl rfl (WL.add64 rfl rfl (by first | omega | (constructor <;> omega)) rfl (WL.assign rfl rfl (WL.nil (?_))))
      first
        | exact WX.loop_next (i + 1, n) ⟨rfl, rfl, rfl, rfl, trivial⟩ ⟨by show i + 1 ≤ _; omega, hI.skip hbi, hc, hb, hw⟩ (by show rs.length - (i + 1) < rs.length - i; omega)
        | exact WX.loop_next (i + 1, (r.xs.length : Int)) ⟨rfl, rfl, rfl, rfl, trivial⟩ ⟨by show i + 1 ≤ _; omega, hI.next hrx hbi (by omega), hc, hb, hw⟩ (by show rs.length - (i + 1) < rs.length - i; omega)
    ·
      rw [decide_eq_false hbi]
      refine WL.nil (WX.then_normal (WC.cond_false rfl (WC.skip (WX.then_normal (WC.seq (WC.seq (WC.region (?_))))))))
      refine WL.move rfl rfl (?_)
      refine WL.geq? rfl rfl rfl (fun h17 => ?_) (fun h17 => ?_)
      ·
        refine WL.move rfl rfl (WL.want rfl rfl rfl (WL.move rfl rfl (WL.want rfl rfl rfl (WL.move rfl rfl (WL.want rfl rfl rfl (?_))))))
        refine WL.indexT Try.underlying22 Try.sizeOf23 hc.outer rfl rfl ⟨hr, rfl⟩ rfl ?_
        intro b_1 o_1 hc_1
        refine WL.want rfl rfl rfl (WL.load Try.isAgg23 rfl (hc_1 0 _ rfl) rfl (WL.want rfl rfl rfl (WL.len Try.underlying23 rfl rfl (WL.want rfl rfl rfl (WL.move rfl rfl (WL.want rfl rfl rfl (?_)))))))
        refine WL.neq? rfl rfl rfl (fun h25 => ?_) (fun h25 => ?_)
        ·
          refine WL.pickT rfl rfl rfl (WL.nil (WX.then_normal (WC.cond_true rfl (WC.seq (WC.region (WL.assign rfl rfl (WL.nil (?_))))))))
          refine WX.then_normal (WC.ret (WX.then_ret (WX.block_ret (WX.then_ret (WX.then_ret (WX.block_ret (WX.then_ret (?_))))))))
          refine WX.ret1 (.inl rfl) Try.results34 rfl ?_
          first
            | (refine ⟨_, rfl, ?_, hw⟩
               rw [hI.uneven hrx hbi ⟨by omega, by omega⟩])
            | (refine ⟨_, rfl, ?_, hw⟩
               rw [hI.done (by omega)]
               first
                 | (rw [if_neg (by omega)]; done)
                 | (rw [if_pos (by omega)]; done))
        ·
          refine WL.pickT rfl rfl rfl (WL.nil (WX.then_normal (WC.cond_false rfl (WC.skip (WX.then_normal (WC.region (WL.move rfl rfl (?_))))))))
          refine WL.move rfl rfl (?_)
          refine WL.indexT Try.underlying22 Try.sizeOf23 hc.outer rfl rfl ⟨hr, rfl⟩ rfl ?_
          intro b_2 o_2 hc_2
          refine WL.load Try.isAgg23 rfl (hc_2 0 _ rfl) rfl (WL.len Try.underlying23 rfl rfl (WL.assign rfl rfl (WL.nil (WX.block_normal (WX.then_normal (WC.region (WL.move rfl rfl (?_))))))))
          refine WL.add64 rfl rfl (by first | omega | (constructor <;> omega)) rfl (WL.assign rfl rfl (WL.nil (?_)))
          first
            | exact WX.loop_next (i + 1, n) ⟨rfl, rfl, rfl, rfl, trivial⟩ ⟨by show i + 1 ≤ _; omega, hI.skip hbi, hc, hb, hw⟩ (by show rs.length - (i + 1) < rs.length - i; omega)
            | exact WX.loop_next (i + 1, (r.xs.length : Int)) ⟨rfl, rfl, rfl, rfl, trivial⟩ ⟨by show i + 1 ≤ _; omega, hI.next hrx hbi (by omega), hc, hb, hw⟩ (by show rs.length - (i + 1) < rs.length - i; omega)
      ·
        refine WL.move rfl rfl (WL.pass rfl rfl rfl rfl (WL.pass rfl rfl rfl rfl (WL.pass rfl rfl rfl rfl (WL.pass rfl rfl rfl rfl (WL.pass rfl rfl rfl rfl (WL.pass rfl rfl rfl rfl (WL.pass rfl rfl rfl rfl (?_))))))))
        refine WL.pickF rfl rfl rfl (WL.nil (WX.then_normal (WC.cond_false rfl (WC.skip (WX.then_normal (WC.region (WL.move rfl rfl (?_))))))))
        refine WL.move rfl rfl (?_)
        refine WL.indexT Try.underlying22 Try.sizeOf23 hc.outer rfl rfl ⟨hr, rfl⟩ rfl ?_
        intro b_1 o_1 hc_1
        refine WL.load Try.isAgg23 rfl (hc_1 0 _ rfl) rfl (WL.len Try.underlying23 rfl rfl (WL.assign rfl rfl (WL.nil (WX.block_normal (WX.then_normal (WC.region (WL.move rfl rfl (?_))))))))
        refine WL.add64 rfl rfl (by first | omega | (constructor <;> omega)) rfl (WL.assign rfl rfl (WL.nil (?_)))
        first
          | exact WX.loop_next (i + 1, n) ⟨rfl, rfl, rfl, rfl, trivial⟩ ⟨by show i + 1 ≤ _; omega, hI.skip hbi, hc, hb, hw⟩ (by show rs.length - (i + 1) < rs.length - i; omega)
          | exact WX.loop_next (i + 1, (r.xs.length : Int)) ⟨rfl, rfl, rfl, rfl, trivial⟩ ⟨by show i + 1 ≤ _; omega, hI.next hrx hbi (by omega), hc, hb, hw⟩ (by show rs.length - (i + 1) < rs.length - i; omega)
  ·
    refine WL.nil (WX.then_normal (WC.cond_false rfl (WC.exit (WX.then_exit (WX.then_exit (WX.block_here (WX.then_normal (?_))))))))
    refine WC.seq (WC.seq (WC.region (WL.move rfl rfl (?_))))
    refine WL.lss? rfl rfl rfl (fun h33 => ?_) (fun h33 => ?_)
    ·
      refine WL.move rfl rfl (WL.pass rfl rfl rfl rfl (WL.pass rfl rfl rfl rfl (WL.pickT rfl rfl rfl (WL.nil (WX.then_normal (WC.cond_true rfl (WC.seq (?_))))))))
      refine WC.region (WL.assign rfl rfl (WL.nil (WX.then_normal (WC.ret (WX.then_ret (?_))))))
      refine WX.ret1 (.inl rfl) Try.results34 rfl ?_
      first
        | (refine ⟨_, rfl, ?_, hw⟩
           rw [hI.uneven hrx hbi ⟨by omega, by omega⟩])
        | (refine ⟨_, rfl, ?_, hw⟩
           rw [hI.done (by omega)]
           first
             | (rw [if_neg (by omega)]; done)
             | (rw [if_pos (by omega)]; done))
    ·
      refine WL.move rfl rfl (WL.want rfl rfl rfl (WL.move rfl rfl (WL.want rfl rfl rfl (?_))))
      refine WL.gtr? rfl rfl rfl (fun h36 => ?_) (fun h36 => ?_)
      ·
        refine WL.pickF rfl rfl rfl (WL.nil (WX.then_normal (WC.cond_true rfl (WC.seq (WC.region (WL.assign rfl rfl (WL.nil (?_))))))))
        refine WX.then_normal (WC.ret (WX.then_ret (?_)))
        refine WX.ret1 (.inl rfl) Try.results34 rfl ?_
        first
          | (refine ⟨_, rfl, ?_, hw⟩
             rw [hI.uneven hrx hbi ⟨by omega, by omega⟩])
          | (refine ⟨_, rfl, ?_, hw⟩
             rw [hI.done (by omega)]
             first
               | (rw [if_neg (by omega)]; done)
               | (rw [if_pos (by omega)]; done))
      ·
        refine WL.pickF rfl rfl rfl (WL.nil (WX.then_normal (WC.cond_false rfl (WC.skip (WX.then_normal (WC.seq (WC.region (?_))))))))
        refine WL.move rfl rfl (WL.assign rfl rfl (WL.nil (WX.then_normal (WC.ret (?_)))))
        refine WX.ret1 (.inl rfl) Try.results34 rfl ?_
        first
          | (refine ⟨_, rfl, ?_, hw⟩
             rw [hI.uneven hrx hbi ⟨by omega, by omega⟩])
          | (refine ⟨_, rfl, ?_, hw⟩
             rw [hI.done (by omega)]
             first
               | (rw [if_neg (by omega)]; done)
               | (rw [if_pos (by omega)]; done))
set_option maxHeartbeats 1000000 in
theorem refRight_calls {S S2 : Nat → Prop} {w : World} {ao ab : Option Addr} {c cb : Nat} {rs : List Rw} {bad : List Int} (hc : RS S w ao c rs) (hb : RSl S2 w ei ab cb bad) (hl : rs.length * 24 ≤ 140737488351232) (hbl : bad.length ≤ 140737488351232) :
    Calls Try.prog 33 [.slice ao rs.length c, .slice ab bad.length cb].toArray w (Ret fun v w' => v = vi (errB (xss rs) bad) ∧ Chg Nob w w') := by
  replace hc := hc.old
  replace hb := hb.old
  have hw := Chg.refl Nob w
  have hxl := xss_len rs
  refine Calls.of_WC Try.func33 rfl Try.ntmps33 (by simp) ?_
  refine WC.seq (WC.region (WL.assign rfl rfl (WL.nil (WX.then_normal (WC.seq (WC.seq (WC.region (?_))))))))
  refine WL.move rfl rfl (WL.len Try.underlying22 rfl rfl (?_))
  refine WL.lss? rfl rfl rfl (fun h8 => ?_) (fun h8 => ?_)
  ·
    refine WL.move rfl rfl (WL.pass rfl rfl rfl rfl (WL.pass rfl rfl rfl rfl (WL.pass rfl rfl rfl rfl (WL.pickT rfl rfl rfl (WL.nil (WX.then_normal (WC.cond_true rfl (?_))))))))
    refine WC.seq (WC.region (WL.assign rfl rfl (WL.nil (WX.then_normal (WC.ret (WX.then_ret (?_)))))))
    refine WX.ret1 (.inl rfl) Try.results33 rfl ?_
    first
      | (refine ⟨_, rfl, ?_, hw⟩
         rw [errB_shape (by omega)])
      | (refine ⟨_, rfl, ?_, hw⟩
         rw [errB_bad (by rw [hxl]; exact OkBad.no hbi (by omega))])
      | (refine ⟨_, rfl, ?_, hw⟩
         rw [errB_bad (by rw [hxl]; exact OkBad.no2 hbi (hd0 (by omega)) (by omega) (by omega))])
      | (refine ⟨_, rfl, ?_, hw⟩
         rw [errB_len (by omega)])
      | (refine ⟨_, rfl, ?_, hw⟩
         rw [errB_ok (by omega) hok (by omega), if_neg (show ¬ bad.length ≤ 3 by omega)])
      | (refine ⟨_, rfl, ?_, hw⟩
         rw [errB_ok (by omega) hok (by omega), if_pos (show bad.length ≤ 3 by omega)])
  ·
    refine WL.move rfl rfl (WL.want rfl rfl rfl (WL.move rfl rfl (WL.want rfl rfl rfl (WL.len Try.underlying22 rfl rfl (WL.want rfl rfl rfl (?_))))))
    refine WL.gtr? rfl rfl rfl (fun h12 => ?_) (fun h12 => ?_)
    ·
      refine WL.pickF rfl rfl rfl (WL.nil (WX.then_normal (WC.cond_true rfl (WC.seq (WC.region (WL.assign rfl rfl (WL.nil (?_))))))))
      refine WX.then_normal (WC.ret (WX.then_ret (?_)))
      refine WX.ret1 (.inl rfl) Try.results33 rfl ?_
      first
        | (refine ⟨_, rfl, ?_, hw⟩
           rw [errB_shape (by omega)])
        | (refine ⟨_, rfl, ?_, hw⟩
           rw [errB_bad (by rw [hxl]; exact OkBad.no hbi (by omega))])
        | (refine ⟨_, rfl, ?_, hw⟩
           rw [errB_bad (by rw [hxl]; exact OkBad.no2 hbi (hd0 (by omega)) (by omega) (by omega))])
        | (refine ⟨_, rfl, ?_, hw⟩
           rw [errB_len (by omega)])
        | (refine ⟨_, rfl, ?_, hw⟩
           rw [errB_ok (by omega) hok (by omega), if_neg (show ¬ bad.length ≤ 3 by omega)])
        | (refine ⟨_, rfl, ?_, hw⟩
           rw [errB_ok (by omega) hok (by omega), if_pos (show bad.length ≤ 3 by omega)])
    ·
      refine WL.pickF rfl rfl rfl (WL.nil (WX.then_normal (WC.cond_false rfl (WC.skip (WX.then_normal (WC.seq (WC.seq (?_))))))))
      refine WC.region (WL.assign rfl rfl (WL.nil (WX.then_normal (WC.block (?_)))))
      refine WC.loop (σ := Nat) (fun i => [(0, .slice ao rs.length c), (1, .slice ab bad.length cb), (5, vi i)])
        (fun i w' => i ≤ bad.length ∧ OkTo rs.length bad i ∧ RS (· < w.heap.size) w' ao c rs ∧ RSl (· < w.heap.size) w' ei ab cb bad ∧ Chg Nob w w') (fun i => bad.length - i) 0 ⟨rfl, rfl, rfl, trivial⟩ ⟨Nat.zero_le _, OkTo.start _ _, hc, hb, hw⟩ ?_
      clear hc hb hw
      rintro i w2 ⟨hi, hI, hc, hb, hw⟩
      refine WC.seq (WC.seq (WC.region (WL.move rfl rfl (WL.move rfl rfl (WL.len Try.underlying33 rfl rfl (?_))))))
      refine WL.lss? rfl rfl rfl (fun h17 => ?_) (fun h17 => ?_)
      ·
        refine WL.nil (WX.then_normal (WC.cond_true rfl (WC.skip (WX.then_normal (WC.seq (WC.block (WC.seq (?_))))))))
        obtain ⟨b, hbi⟩ : ∃ b, bad[i]? = some b := ⟨_, List.getElem?_eq_getElem (by omega)⟩
        obtain ⟨d, hd0⟩ : ∃ d : Int, 0 < i → bad[i - 1]? = some d := ⟨bad.getD (i - 1) 0, fun h => by rw [List.getD_eq_getElem?_getD, List.getElem?_eq_getElem (by omega)]; rfl⟩
        obtain ⟨b1, o1, rfl⟩ := hb.place hbi
        refine WC.draw (Nob) [0, 1, 2, 3, 4, 5, 6, 7, 8, 9, 10, 11, 12, 13, 14, 15, 16, 17, 18, 19, 20, 21, 22, 23, 24, 25, 26, 27, 28, 29] [] mixed rfl rfl (fun wd_1 kd_1 zd_1 => ?_)
        have zs_kd_1 := kd_1.size
        replace hc := hc.pure kd_1
        replace hb := hb.pure kd_1
        replace hw := hw.pure kd_1
        apply DQ.step (E' := [(1, _)])
        case ho => rfl
        case hs => exact ⟨rfl, trivial⟩
        case hk => rfl
        case h1 =>
          intro wq_2 kq_2
          refine WL.move rfl rfl (?_)
          refine WL.nil ?_
          exact WX.one ⟨rfl, by first | exact Chg.refl _ _ | assumption⟩
        apply DQ.step (E' := [(5, _)])
        case ho => rfl
        case hs => exact ⟨rfl, trivial⟩
        case hk => rfl
        case h1 =>
          intro wq_3 kq_3
          refine WL.move rfl rfl (?_)
          refine WL.nil ?_
          exact WX.one ⟨rfl, by first | exact Chg.refl _ _ | assumption⟩
        apply DQ.step (E' := [(20, _), (21, _)])
        case ho => rfl
        case hs => exact ⟨rfl, rfl, trivial⟩
        case hk => rfl
        case h1 =>
          intro wq_4 kq_4
          have zs_kq_4 := kq_4.size
          replace hc := hc.pure kq_4
          replace hb := hb.pure kq_4
          replace hw := hw.pure kq_4
          refine WL.indexC hb Try.underlying33 Try.sizeOf3 rfl rfl ⟨hbi, rfl⟩ rfl ?_
          refine WL.nil ?_
          exact WX.one ⟨rfl, by first | exact Chg.refl _ _ | assumption⟩
        apply DQ.step (E' := [(22, _)])
        case ho => rfl
        case hs => exact ⟨rfl, trivial⟩
        case hk => rfl
        case h1 =>
          intro wq_5 kq_5
          have zs_kq_5 := kq_5.size
          replace hc := hc.pure kq_5
          replace hb := hb.pure kq_5
          replace hw := hw.pure kq_5
          refine WL.load Try.isAgg3 rfl ((hb.cellsAt hbi) 0 _ rfl) rfl (?_)
          refine WL.nil ?_
          exact WX.one ⟨rfl, by first | exact Chg.refl _ _ | assumption⟩
        apply DQ.split (E' := [(23, _)])
        case ho => rfl
        case hs => exact ⟨rfl, trivial⟩
        case hk => rfl
        case h1 =>
          intro wq_6 kq_6
          refine WL.lss rfl rfl rfl ?_
          refine WL.nil ?_
          exact WX.one ⟨rfl, by first | exact Chg.refl _ _ | assumption⟩
        case ht =>
          intro h24
          replace h24 := of_decide_eq_true h24
          apply DQ.step (E' := [(24, _)])
          case ho => rfl
          case hs => exact ⟨rfl, trivial⟩
          case hk => rfl
          case h1 =>
            intro wq_7 kq_7
            refine WL.move rfl rfl (?_)
            refine WL.nil ?_
            exact WX.one ⟨rfl, by first | exact Chg.refl _ _ | assumption⟩
          apply DQ.step (E' := [(1, _), (25, _)])
          case ho => rfl
          case hs => exact ⟨rfl, rfl, trivial⟩
          case hk => rfl
          case h1 =>
            intro wq_8 kq_8
            refine WL.pass rfl rfl rfl rfl (WL.nil (?_))
            exact WX.one ⟨rfl, by first | exact Chg.refl _ _ | assumption⟩
          apply DQ.step (E' := [(5, _), (25, _)])
          case ho => rfl
          case hs => exact ⟨rfl, rfl, trivial⟩
          case hk => rfl
          case h1 =>
            intro wq_9 kq_9
            refine WL.pass rfl rfl rfl rfl (WL.nil (?_))
            exact WX.one ⟨rfl, by first | exact Chg.refl _ _ | assumption⟩
          apply DQ.step (E' := [(26, _), (27, _), (25, _)])
          case ho => rfl
          case hs => exact ⟨rfl, rfl, rfl, trivial⟩
          case hk => rfl
          case h1 =>
            intro wq_10 kq_10
            have zs_kq_10 := kq_10.size
            replace hc := hc.pure kq_10
            replace hb := hb.pure kq_10
            replace hw := hw.pure kq_10
            refine WL.pass rfl rfl rfl rfl (WL.nil (?_))
            exact WX.one ⟨rfl, by first | exact Chg.refl _ _ | assumption⟩
          apply DQ.step (E' := [(28, _), (25, _)])
          case ho => rfl
          case hs => exact ⟨rfl, rfl, trivial⟩
          case hk => rfl
          case h1 =>
            intro wq_11 kq_11
            have zs_kq_11 := kq_11.size
            replace hc := hc.pure kq_11
            replace hb := hb.pure kq_11
            replace hw := hw.pure kq_11
            refine WL.pass rfl rfl rfl rfl (WL.nil (?_))
            exact WX.one ⟨rfl, by first | exact Chg.refl _ _ | assumption⟩
          apply DQ.step (E' := [(0, _), (25, _)])
          case ho => rfl
          case hs => exact ⟨rfl, rfl, trivial⟩
          case hk => rfl
          case h1 =>
            intro wq_12 kq_12
            refine WL.pass rfl rfl rfl rfl (WL.nil (?_))
            exact WX.one ⟨rfl, by first | exact Chg.refl _ _ | assumption⟩
          apply DQ.step (E' := [(30, _), (25, _)])
          case ho => rfl
          case hs => exact ⟨rfl, rfl, trivial⟩
          case hk => rfl
          case h1 =>
            intro wq_13 kq_13
            have zs_kq_13 := kq_13.size
            replace hc := hc.pure kq_13
            replace hb := hb.pure kq_13
            replace hw := hw.pure kq_13
            refine WL.pass rfl rfl rfl rfl (WL.nil (?_))
            exact WX.one ⟨rfl, by first | exact Chg.refl _ _ | assumption⟩
          apply DQ.step (E' := [(29, _), (31, _), (25, _)])
          case ho => rfl
          case hs => exact ⟨rfl, rfl, rfl, trivial⟩
          case hk => rfl
          case h1 =>
            intro wq_14 kq_14
            refine WL.pass rfl rfl rfl rfl (WL.nil (?_))
            exact WX.one ⟨rfl, by first | exact Chg.refl _ _ | assumption⟩
          apply DQ.step (E' := [(25, _), (32, _)])
          case ho => rfl
          case hs => exact ⟨rfl, rfl, trivial⟩
          case hk => rfl
          case h1 =>
            intro wq_15 kq_15
            refine WL.pickT rfl rfl rfl (?_)
            refine WL.nil ?_
            exact WX.one ⟨rfl, by first | exact Chg.refl _ _ | assumption⟩
          apply DQ.step (E' := [(33, _)])
          case ho => rfl
          case hs => exact ⟨rfl, trivial⟩
          case hk => rfl
          case h1 =>
            intro wq_16 kq_16
            refine WL.move rfl rfl (?_)
            refine WL.nil ?_
            exact WX.one ⟨rfl, by first | exact Chg.refl _ _ | assumption⟩
          apply DQ.step (E' := [(5, _), (34, _)])
          case ho => rfl
          case hs => exact ⟨rfl, rfl, trivial⟩
          case hk => rfl
          case h1 =>
            intro wq_17 kq_17
            refine WL.pass rfl rfl rfl rfl (WL.nil (?_))
            exact WX.one ⟨rfl, by first | exact Chg.refl _ _ | assumption⟩
          apply DQ.step (E' := [(35, _), (34, _)])
          case ho => rfl
          case hs => exact ⟨rfl, rfl, trivial⟩
          case hk => rfl
          case h1 =>
            intro wq_18 kq_18
            refine WL.pass rfl rfl rfl rfl (WL.nil (?_))
            exact WX.one ⟨rfl, by first | exact Chg.refl _ _ | assumption⟩
          apply DQ.step (E' := [(36, _), (34, _)])
          case ho => rfl
          case hs => exact ⟨rfl, rfl, trivial⟩
          case hk => rfl
          case h1 =>
            intro wq_19 kq_19
            refine WL.pass rfl rfl rfl rfl (WL.nil (?_))
            exact WX.one ⟨rfl, by first | exact Chg.refl _ _ | assumption⟩
          apply DQ.step (E' := [(1, _), (37, _)])
          case ho => rfl
          case hs => exact ⟨rfl, rfl, trivial⟩
          case hk => rfl
          case h1 =>
            intro wq_20 kq_20
            refine WL.passU rfl rfl rfl (WL.nil (?_))
            exact WX.one ⟨rfl, by first | exact Chg.refl _ _ | assumption⟩
          apply DQ.step (E' := [(5, _), (37, _)])
          case ho => rfl
          case hs => exact ⟨rfl, rfl, trivial⟩
          case hk => rfl
          case h1 =>
            intro wq_21 kq_21
            refine WL.passU rfl rfl rfl (WL.nil (?_))
            exact WX.one ⟨rfl, by first | exact Chg.refl _ _ | assumption⟩
          apply DQ.step (E' := [(38, _), (39, _), (37, _)])
          case ho => rfl
          case hs => exact ⟨rfl, rfl, rfl, trivial⟩
          case hk => rfl
          case h1 =>
            intro wq_22 kq_22
            have zs_kq_22 := kq_22.size
            replace hc := hc.pure kq_22
            replace hb := hb.pure kq_22
            replace hw := hw.pure kq_22
            refine WL.passU rfl rfl rfl (WL.nil (?_))
            exact WX.one ⟨rfl, by first | exact Chg.refl _ _ | assumption⟩
          apply DQ.step (E' := [(40, _), (37, _)])
          case ho => rfl
          case hs => exact ⟨rfl, rfl, trivial⟩
          case hk => rfl
          case h1 =>
            intro wq_23 kq_23
            have zs_kq_23 := kq_23.size
            replace hc := hc.pure kq_23
            replace hb := hb.pure kq_23
            replace hw := hw.pure kq_23
            refine WL.passU rfl rfl rfl (WL.nil (?_))
            exact WX.one ⟨rfl, by first | exact Chg.refl _ _ | assumption⟩
          apply DQ.step (E' := [(1, _), (37, _)])
          case ho => rfl
          case hs => exact ⟨rfl, rfl, trivial⟩
          case hk => rfl
          case h1 =>
            intro wq_24 kq_24
            refine WL.passU rfl rfl rfl (WL.nil (?_))
            exact WX.one ⟨rfl, by first | exact Chg.refl _ _ | assumption⟩
          apply DQ.step (E' := [(5, _), (37, _)])
          case ho => rfl
          case hs => exact ⟨rfl, rfl, trivial⟩
          case hk => rfl
          case h1 =>
            intro wq_25 kq_25
            refine WL.passU rfl rfl rfl (WL.nil (?_))
            exact WX.one ⟨rfl, by first | exact Chg.refl _ _ | assumption⟩
          apply DQ.step (E' := [(43, _), (37, _)])
          case ho => rfl
          case hs => exact ⟨rfl, rfl, trivial⟩
          case hk => rfl
          case h1 =>
            intro wq_26 kq_26
            refine WL.passU rfl rfl rfl (WL.nil (?_))
            exact WX.one ⟨rfl, by first | exact Chg.refl _ _ | assumption⟩
          apply DQ.step (E' := [(42, _), (44, _), (37, _)])
          case ho => rfl
          case hs => exact ⟨rfl, rfl, rfl, trivial⟩
          case hk => rfl
          case h1 =>
            intro wq_27 kq_27
            have zs_kq_27 := kq_27.size
            replace hc := hc.pure kq_27
            replace hb := hb.pure kq_27
            replace hw := hw.pure kq_27
            refine WL.passU rfl rfl rfl (WL.nil (?_))
            exact WX.one ⟨rfl, by first | exact Chg.refl _ _ | assumption⟩
          apply DQ.step (E' := [(45, _), (37, _)])
          case ho => rfl
          case hs => exact ⟨rfl, rfl, trivial⟩
          case hk => rfl
          case h1 =>
            intro wq_28 kq_28
            have zs_kq_28 := kq_28.size
            replace hc := hc.pure kq_28
            replace hb := hb.pure kq_28
            replace hw := hw.pure kq_28
            refine WL.passU rfl rfl rfl (WL.nil (?_))
            exact WX.one ⟨rfl, by first | exact Chg.refl _ _ | assumption⟩
          apply DQ.step (E' := [(41, _), (46, _), (37, _)])
          case ho => rfl
          case hs => exact ⟨rfl, rfl, rfl, trivial⟩
          case hk => rfl
          case h1 =>
            intro wq_29 kq_29
            refine WL.passU rfl rfl rfl (WL.nil (?_))
            exact WX.one ⟨rfl, by first | exact Chg.refl _ _ | assumption⟩
          apply DQ.step (E' := [(37, _), (47, _), (34, _)])
          case ho => rfl
          case hs => exact ⟨rfl, rfl, rfl, trivial⟩
          case hk => rfl
          case h1 =>
            intro wq_30 kq_30
            refine WL.pass rfl rfl rfl rfl (WL.nil (?_))
            exact WX.one ⟨rfl, by first | exact Chg.refl _ _ | assumption⟩
          apply DQ.step (E' := [(34, _), (48, _)])
          case ho => rfl
          case hs => exact ⟨rfl, rfl, trivial⟩
          case hk => rfl
          case h1 =>
            intro wq_31 kq_31
            refine WL.pickT rfl rfl rfl (?_)
            refine WL.nil ?_
            exact WX.one ⟨rfl, by first | exact Chg.refl _ _ | assumption⟩
          refine DQ.done (fun _ => ?_)
          refine DL.done (fun we_32 ke_32 => ?_)
          have zs_ke_32 := ke_32.size
          replace hc := hc.pure ke_32
          replace hb := hb.pure ke_32
          replace hw := hw.pure ke_32
          refine WX.then_normal (WC.cond_true rfl (WC.seq (WC.region (WL.assign rfl rfl (WL.nil (WX.then_normal (WC.ret (?_))))))))
          refine WX.block_ret (WX.then_ret (WX.then_ret (WX.block_ret (WX.then_ret (?_)))))
          refine WX.ret1 (.inl rfl) Try.results33 rfl ?_
          first
            | (refine ⟨_, rfl, ?_, hw⟩
               rw [errB_shape (by omega)])
            | (refine ⟨_, rfl, ?_, hw⟩
               rw [errB_bad (by rw [hxl]; exact OkBad.no hbi (by omega))])
            | (refine ⟨_, rfl, ?_, hw⟩
               rw [errB_bad (by rw [hxl]; exact OkBad.no2 hbi (hd0 (by omega)) (by omega) (by omega))])
            | (refine ⟨_, rfl, ?_, hw⟩
               rw [errB_len (by omega)])
            | (refine ⟨_, rfl, ?_, hw⟩
               rw [errB_ok (by omega) hok (by omega), if_neg (show ¬ bad.length ≤ 3 by omega)])
            | (refine ⟨_, rfl, ?_, hw⟩
               rw [errB_ok (by omega) hok (by omega), if_pos (show bad.length ≤ 3 by omega)])
        case hf =>
          intro h24
          replace h24 := of_decide_eq_false h24
          apply DQ.step (E' := [(24, _)])
          case ho => rfl
          case hs => exact ⟨rfl, trivial⟩
          case hk => rfl
          case h1 =>
            intro wq_7 kq_7
            refine WL.move rfl rfl (?_)
            refine WL.nil ?_
            exact WX.one ⟨rfl, by first | exact Chg.refl _ _ | assumption⟩
          apply DQ.step (E' := [(1, _), (25, _)])
          case ho => rfl
          case hs => exact ⟨rfl, rfl, trivial⟩
          case hk => rfl
          case h1 =>
            intro wq_8 kq_8
            refine WL.want rfl rfl rfl (WL.move rfl rfl (?_))
            refine WL.nil ?_
            exact WX.one ⟨rfl, by first | exact Chg.refl _ _ | assumption⟩
          apply DQ.step (E' := [(5, _), (25, _)])
          case ho => rfl
          case hs => exact ⟨rfl, rfl, trivial⟩
          case hk => rfl
          case h1 =>
            intro wq_9 kq_9
            refine WL.want rfl rfl rfl (WL.move rfl rfl (?_))
            refine WL.nil ?_
            exact WX.one ⟨rfl, by first | exact Chg.refl _ _ | assumption⟩
          apply DQ.step (E' := [(26, _), (27, _), (25, _)])
          case ho => rfl
          case hs => exact ⟨rfl, rfl, rfl, trivial⟩
          case hk => rfl
          case h1 =>
            intro wq_10 kq_10
            have zs_kq_10 := kq_10.size
            replace hc := hc.pure kq_10
            replace hb := hb.pure kq_10
            replace hw := hw.pure kq_10
            refine WL.want rfl rfl rfl (?_)
            refine WL.indexC hb Try.underlying33 Try.sizeOf3 rfl rfl ⟨hbi, rfl⟩ rfl ?_
            refine WL.nil ?_
            exact WX.one ⟨rfl, by first | exact Chg.refl _ _ | assumption⟩
          apply DQ.step (E' := [(28, _), (25, _)])
          case ho => rfl
          case hs => exact ⟨rfl, rfl, trivial⟩
          case hk => rfl
          case h1 =>
            intro wq_11 kq_11
            have zs_kq_11 := kq_11.size
            replace hc := hc.pure kq_11
            replace hb := hb.pure kq_11
            replace hw := hw.pure kq_11
            refine WL.want rfl rfl rfl (WL.load Try.isAgg3 rfl ((hb.cellsAt hbi) 0 _ rfl) rfl (?_))
            refine WL.nil ?_
            exact WX.one ⟨rfl, by first | exact Chg.refl _ _ | assumption⟩
          apply DQ.step (E' := [(0, _), (25, _)])
          case ho => rfl
          case hs => exact ⟨rfl, rfl, trivial⟩
          case hk => rfl
          case h1 =>
            intro wq_12 kq_12
            refine WL.want rfl rfl rfl (WL.move rfl rfl (?_))
            refine WL.nil ?_
            exact WX.one ⟨rfl, by first | exact Chg.refl _ _ | assumption⟩
          apply DQ.step (E' := [(30, _), (25, _)])
          case ho => rfl
          case hs => exact ⟨rfl, rfl, trivial⟩
          case hk => rfl
          case h1 =>
            intro wq_13 kq_13
            have zs_kq_13 := kq_13.size
            replace hc := hc.pure kq_13
            replace hb := hb.pure kq_13
            replace hw := hw.pure kq_13
            refine WL.want rfl rfl rfl (WL.len Try.underlying22 rfl rfl (?_))
            refine WL.nil ?_
            exact WX.one ⟨rfl, by first | exact Chg.refl _ _ | assumption⟩
          apply DQ.split (E' := [(29, _), (31, _), (25, _)])
          case ho => rfl
          case hs => exact ⟨rfl, rfl, rfl, trivial⟩
          case hk => rfl
          case h1 =>
            intro wq_14 kq_14
            refine WL.want rfl rfl rfl (?_)
            refine WL.geq rfl rfl rfl ?_
            refine WL.nil ?_
            exact WX.one ⟨rfl, by first | exact Chg.refl _ _ | assumption⟩
          case ht =>
            intro h32
            replace h32 := of_decide_eq_true h32
            apply DQ.step (E' := [(25, _), (32, _)])
            case ho => rfl
            case hs => exact ⟨rfl, rfl, trivial⟩
            case hk => rfl
            case h1 =>
              intro wq_15 kq_15
              refine WL.pickF rfl rfl rfl (?_)
              refine WL.nil ?_
              exact WX.one ⟨rfl, by first | exact Chg.refl _ _ | assumption⟩
            apply DQ.step (E' := [(33, _)])
            case ho => rfl
            case hs => exact ⟨rfl, trivial⟩
            case hk => rfl
            case h1 =>
              intro wq_16 kq_16
              refine WL.move rfl rfl (?_)
              refine WL.nil ?_
              exact WX.one ⟨rfl, by first | exact Chg.refl _ _ | assumption⟩
            apply DQ.step (E' := [(5, _), (34, _)])
            case ho => rfl
            case hs => exact ⟨rfl, rfl, trivial⟩
            case hk => rfl
            case h1 =>
              intro wq_17 kq_17
              refine WL.pass rfl rfl rfl rfl (WL.nil (?_))
              exact WX.one ⟨rfl, by first | exact Chg.refl _ _ | assumption⟩
            apply DQ.step (E' := [(35, _), (34, _)])
            case ho => rfl
            case hs => exact ⟨rfl, rfl, trivial⟩
            case hk => rfl
            case h1 =>
              intro wq_18 kq_18
              refine WL.pass rfl rfl rfl rfl (WL.nil (?_))
              exact WX.one ⟨rfl, by first | exact Chg.refl _ _ | assumption⟩
            apply DQ.step (E' := [(36, _), (34, _)])
            case ho => rfl
            case hs => exact ⟨rfl, rfl, trivial⟩
            case hk => rfl
            case h1 =>
              intro wq_19 kq_19
              refine WL.pass rfl rfl rfl rfl (WL.nil (?_))
              exact WX.one ⟨rfl, by first | exact Chg.refl _ _ | assumption⟩
            apply DQ.step (E' := [(1, _), (37, _)])
            case ho => rfl
            case hs => exact ⟨rfl, rfl, trivial⟩
            case hk => rfl
            case h1 =>
              intro wq_20 kq_20
              refine WL.passU rfl rfl rfl (WL.nil (?_))
              exact WX.one ⟨rfl, by first | exact Chg.refl _ _ | assumption⟩
            apply DQ.step (E' := [(5, _), (37, _)])
            case ho => rfl
            case hs => exact ⟨rfl, rfl, trivial⟩
            case hk => rfl
            case h1 =>
              intro wq_21 kq_21
              refine WL.passU rfl rfl rfl (WL.nil (?_))
              exact WX.one ⟨rfl, by first | exact Chg.refl _ _ | assumption⟩
            apply DQ.step (E' := [(38, _), (39, _), (37, _)])
            case ho => rfl
            case hs => exact ⟨rfl, rfl, rfl, trivial⟩
            case hk => rfl
            case h1 =>
              intro wq_22 kq_22
              have zs_kq_22 := kq_22.size
              replace hc := hc.pure kq_22
              replace hb := hb.pure kq_22
              replace hw := hw.pure kq_22
              refine WL.passU rfl rfl rfl (WL.nil (?_))
              exact WX.one ⟨rfl, by first | exact Chg.refl _ _ | assumption⟩
            apply DQ.step (E' := [(40, _), (37, _)])
            case ho => rfl
            case hs => exact ⟨rfl, rfl, trivial⟩
            case hk => rfl
            case h1 =>
              intro wq_23 kq_23
              have zs_kq_23 := kq_23.size
              replace hc := hc.pure kq_23
              replace hb := hb.pure kq_23
              replace hw := hw.pure kq_23
              refine WL.passU rfl rfl rfl (WL.nil (?_))
              exact WX.one ⟨rfl, by first | exact Chg.refl _ _ | assumption⟩
            apply DQ.step (E' := [(1, _), (37, _)])
            case ho => rfl
            case hs => exact ⟨rfl, rfl, trivial⟩
            case hk => rfl
            case h1 =>
              intro wq_24 kq_24
              refine WL.passU rfl rfl rfl (WL.nil (?_))
              exact WX.one ⟨rfl, by first | exact Chg.refl _ _ | assumption⟩
            apply DQ.step (E' := [(5, _), (37, _)])
            case ho => rfl
            case hs => exact ⟨rfl, rfl, trivial⟩
            case hk => rfl
            case h1 =>
              intro wq_25 kq_25
              refine WL.passU rfl rfl rfl (WL.nil (?_))
              exact WX.one ⟨rfl, by first | exact Chg.refl _ _ | assumption⟩
            apply DQ.step (E' := [(43, _), (37, _)])
            case ho => rfl
            case hs => exact ⟨rfl, rfl, trivial⟩
            case hk => rfl
            case h1 =>
              intro wq_26 kq_26
              refine WL.passU rfl rfl rfl (WL.nil (?_))
              exact WX.one ⟨rfl, by first | exact Chg.refl _ _ | assumption⟩
            apply DQ.step (E' := [(42, _), (44, _), (37, _)])
            case ho => rfl
            case hs => exact ⟨rfl, rfl, rfl, trivial⟩
            case hk => rfl
            case h1 =>
              intro wq_27 kq_27
              have zs_kq_27 := kq_27.size
              replace hc := hc.pure kq_27
              replace hb := hb.pure kq_27
              replace hw := hw.pure kq_27
              refine WL.passU rfl rfl rfl (WL.nil (?_))
              exact WX.one ⟨rfl, by first | exact Chg.refl _ _ | assumption⟩
            apply DQ.step (E' := [(45, _), (37, _)])
            case ho => rfl
            case hs => exact ⟨rfl, rfl, trivial⟩
            case hk => rfl
            case h1 =>
              intro wq_28 kq_28
              have zs_kq_28 := kq_28.size
              replace hc := hc.pure kq_28
              replace hb := hb.pure kq_28
              replace hw := hw.pure kq_28
              refine WL.passU rfl rfl rfl (WL.nil (?_))
              exact WX.one ⟨rfl, by first | exact Chg.refl _ _ | assumption⟩
            apply DQ.step (E' := [(41, _), (46, _), (37, _)])
            case ho => rfl
            case hs => exact ⟨rfl, rfl, rfl, trivial⟩
            case hk => rfl
            case h1 =>
              intro wq_29 kq_29
              refine WL.passU rfl rfl rfl (WL.nil (?_))
              exact WX.one ⟨rfl, by first | exact Chg.refl _ _ | assumption⟩
            apply DQ.step (E' := [(37, _), (47, _), (34, _)])
            case ho => rfl
            case hs => exact ⟨rfl, rfl, rfl, trivial⟩
            case hk => rfl
            case h1 =>
              intro wq_30 kq_30
              refine WL.pass rfl rfl rfl rfl (WL.nil (?_))
              exact WX.one ⟨rfl, by first | exact Chg.refl _ _ | assumption⟩
            apply DQ.step (E' := [(34, _), (48, _)])
            case ho => rfl
            case hs => exact ⟨rfl, rfl, trivial⟩
            case hk => rfl
            case h1 =>
              intro wq_31 kq_31
              refine WL.pickT rfl rfl rfl (?_)
              refine WL.nil ?_
              exact WX.one ⟨rfl, by first | exact Chg.refl _ _ | assumption⟩
            refine DQ.done (fun _ => ?_)
            refine DL.done (fun we_32 ke_32 => ?_)
            have zs_ke_32 := ke_32.size
            replace hc := hc.pure ke_32
            replace hb := hb.pure ke_32
            replace hw := hw.pure ke_32
            refine WX.then_normal (WC.cond_true rfl (WC.seq (WC.region (WL.assign rfl rfl (WL.nil (WX.then_normal (WC.ret (?_))))))))
            refine WX.block_ret (WX.then_ret (WX.then_ret (WX.block_ret (WX.then_ret (?_)))))
            refine WX.ret1 (.inl rfl) Try.results33 rfl ?_
            first
              | (refine ⟨_, rfl, ?_, hw⟩
                 rw [errB_shape (by omega)])
              | (refine ⟨_, rfl, ?_, hw⟩
                 rw [errB_bad (by rw [hxl]; exact OkBad.no hbi (by omega))])
              | (refine ⟨_, rfl, ?_, hw⟩
                 rw [errB_bad (by rw [hxl]; exact OkBad.no2 hbi (hd0 (by omega)) (by omega) (by omega))])
              | (refine ⟨_, rfl, ?_, hw⟩
                 rw [errB_len (by omega)])
              | (refine ⟨_, rfl, ?_, hw⟩
                 rw [errB_ok (by omega) hok (by omega), if_neg (show ¬ bad.length ≤ 3 by omega)])
              | (refine ⟨_, rfl, ?_, hw⟩
                 rw [errB_ok (by omega) hok (by omega), if_pos (show bad.length ≤ 3 by omega)])
          case hf =>
            intro h32
            replace h32 := of_decide_eq_false h32
            apply DQ.step (E' := [(25, _), (32, _)])
            case ho => rfl
            case hs => exact ⟨rfl, rfl, trivial⟩
            case hk => rfl
            case h1 =>
              intro wq_15 kq_15
              refine WL.pickF rfl rfl rfl (?_)
              refine WL.nil ?_
              exact WX.one ⟨rfl, by first | exact Chg.refl _ _ | assumption⟩
            apply DQ.step (E' := [(33, _)])
            case ho => rfl
            case hs => exact ⟨rfl, trivial⟩
            case hk => rfl
            case h1 =>
              intro wq_16 kq_16
              refine WL.move rfl rfl (?_)
              refine WL.nil ?_
              exact WX.one ⟨rfl, by first | exact Chg.refl _ _ | assumption⟩
            apply DQ.step (E' := [(5, _), (34, _)])
            case ho => rfl
            case hs => exact ⟨rfl, rfl, trivial⟩
            case hk => rfl
            case h1 =>
              intro wq_17 kq_17
              refine WL.want rfl rfl rfl (WL.move rfl rfl (?_))
              refine WL.nil ?_
              exact WX.one ⟨rfl, by first | exact Chg.refl _ _ | assumption⟩
            apply DQ.split (E' := [(35, _), (34, _)])
            case ho => rfl
            case hs => exact ⟨rfl, rfl, trivial⟩
            case hk => rfl
            case h1 =>
              intro wq_18 kq_18
              refine WL.want rfl rfl rfl (?_)
              refine WL.gtr rfl rfl rfl ?_
              refine WL.nil ?_
              exact WX.one ⟨rfl, by first | exact Chg.refl _ _ | assumption⟩
            case ht =>
              intro h36
              replace h36 := of_decide_eq_true h36
              apply DQ.step (E' := [(36, _), (34, _)])
              case ho => rfl
              case hs => exact ⟨rfl, rfl, trivial⟩
              case hk => rfl
              case h1 =>
                intro wq_19 kq_19
                refine WL.want rfl rfl rfl (WL.move rfl rfl (?_))
                refine WL.nil ?_
                exact WX.one ⟨rfl, by first | exact Chg.refl _ _ | assumption⟩
              apply DQ.step (E' := [(1, _), (37, _)])
              case ho => rfl
              case hs => exact ⟨rfl, rfl, trivial⟩
              case hk => rfl
              case h1 =>
                intro wq_20 kq_20
                refine WL.want rfl rfl rfl (WL.move rfl rfl (?_))
                refine WL.nil ?_
                exact WX.one ⟨rfl, by first | exact Chg.refl _ _ | assumption⟩
              apply DQ.step (E' := [(5, _), (37, _)])
              case ho => rfl
              case hs => exact ⟨rfl, rfl, trivial⟩
              case hk => rfl
              case h1 =>
                intro wq_21 kq_21
                refine WL.want rfl rfl rfl (WL.move rfl rfl (?_))
                refine WL.nil ?_
                exact WX.one ⟨rfl, by first | exact Chg.refl _ _ | assumption⟩
              apply DQ.step (E' := [(38, _), (39, _), (37, _)])
              case ho => rfl
              case hs => exact ⟨rfl, rfl, rfl, trivial⟩
              case hk => rfl
              case h1 =>
                intro wq_22 kq_22
                have zs_kq_22 := kq_22.size
                replace hc := hc.pure kq_22
                replace hb := hb.pure kq_22
                replace hw := hw.pure kq_22
                refine WL.want rfl rfl rfl (?_)
                refine WL.indexC hb Try.underlying33 Try.sizeOf3 rfl rfl ⟨hbi, rfl⟩ rfl ?_
                refine WL.nil ?_
                exact WX.one ⟨rfl, by first | exact Chg.refl _ _ | assumption⟩
              apply DQ.step (E' := [(40, _), (37, _)])
              case ho => rfl
              case hs => exact ⟨rfl, rfl, trivial⟩
              case hk => rfl
              case h1 =>
                intro wq_23 kq_23
                have zs_kq_23 := kq_23.size
                replace hc := hc.pure kq_23
                replace hb := hb.pure kq_23
                replace hw := hw.pure kq_23
                refine WL.want rfl rfl rfl (WL.load Try.isAgg3 rfl ((hb.cellsAt hbi) 0 _ rfl) rfl (?_))
                refine WL.nil ?_
                exact WX.one ⟨rfl, by first | exact Chg.refl _ _ | assumption⟩
              apply DQ.step (E' := [(1, _), (37, _)])
              case ho => rfl
              case hs => exact ⟨rfl, rfl, trivial⟩
              case hk => rfl
              case h1 =>
                intro wq_24 kq_24
                refine WL.want rfl rfl rfl (WL.move rfl rfl (?_))
                refine WL.nil ?_
                exact WX.one ⟨rfl, by first | exact Chg.refl _ _ | assumption⟩
              apply DQ.step (E' := [(5, _), (37, _)])
              case ho => rfl
              case hs => exact ⟨rfl, rfl, trivial⟩
              case hk => rfl
              case h1 =>
                intro wq_25 kq_25
                refine WL.want rfl rfl rfl (WL.move rfl rfl (?_))
                refine WL.nil ?_
                exact WX.one ⟨rfl, by first | exact Chg.refl _ _ | assumption⟩
              apply DQ.step (E' := [(43, _), (37, _)])
              case ho => rfl
              case hs => exact ⟨rfl, rfl, trivial⟩
              case hk => rfl
              case h1 =>
                intro wq_26 kq_26
                refine WL.want rfl rfl rfl (?_)
                refine WL.sub64 rfl rfl (by constructor <;> omega) rfl ?_
                rw [show ((i : Int) - 1) = ((i - 1 : Nat) : Int) from by omega]
                refine WL.nil ?_
                exact WX.one ⟨rfl, by first | exact Chg.refl _ _ | assumption⟩
              apply DQ.step (E' := [(42, _), (44, _), (37, _)])
              case ho => rfl
              case hs => exact ⟨rfl, rfl, rfl, trivial⟩
              case hk => rfl
              case h1 =>
                intro wq_27 kq_27
                have zs_kq_27 := kq_27.size
                replace hc := hc.pure kq_27
                replace hb := hb.pure kq_27
                replace hw := hw.pure kq_27
                refine WL.want rfl rfl rfl (?_)
                refine WL.indexC hb Try.underlying33 Try.sizeOf3 rfl rfl ⟨hd0 (by omega), rfl⟩ rfl ?_
                refine WL.nil ?_
                exact WX.one ⟨rfl, by first | exact Chg.refl _ _ | assumption⟩
              apply DQ.step (E' := [(45, _), (37, _)])
              case ho => rfl
              case hs => exact ⟨rfl, rfl, trivial⟩
              case hk => rfl
              case h1 =>
                intro wq_28 kq_28
                have zs_kq_28 := kq_28.size
                replace hc := hc.pure kq_28
                replace hb := hb.pure kq_28
                replace hw := hw.pure kq_28
                refine WL.want rfl rfl rfl (?_)
                refine WL.load Try.isAgg3 rfl ((hb.cellsAt (hd0 (by omega))) 0 _ rfl) rfl ?_
                refine WL.nil ?_
                exact WX.one ⟨rfl, by first | exact Chg.refl _ _ | assumption⟩
              apply DQ.split (E' := [(41, _), (46, _), (37, _)])
              case ho => rfl
              case hs => exact ⟨rfl, rfl, rfl, trivial⟩
              case hk => rfl
              case h1 =>
                intro wq_29 kq_29
                refine WL.want rfl rfl rfl (?_)
                refine WL.leq rfl rfl rfl ?_
                refine WL.nil ?_
                exact WX.one ⟨rfl, by first | exact Chg.refl _ _ | assumption⟩
              case ht =>
                intro h47
                replace h47 := of_decide_eq_true h47
                apply DQ.step (E' := [(37, _), (47, _), (34, _)])
                case ho => rfl
                case hs => exact ⟨rfl, rfl, rfl, trivial⟩
                case hk => rfl
                case h1 =>
                  intro wq_30 kq_30
                  refine WL.want rfl rfl rfl (WL.pickT rfl rfl rfl (?_))
                  refine WL.nil ?_
                  exact WX.one ⟨rfl, by first | exact Chg.refl _ _ | assumption⟩
                apply DQ.step (E' := [(34, _), (48, _)])
                case ho => rfl
                case hs => exact ⟨rfl, rfl, trivial⟩
                case hk => rfl
                case h1 =>
                  intro wq_31 kq_31
                  refine WL.pickF rfl rfl rfl (?_)
                  refine WL.nil ?_
                  exact WX.one ⟨rfl, by first | exact Chg.refl _ _ | assumption⟩
                refine DQ.done (fun _ => ?_)
                refine DL.done (fun we_32 ke_32 => ?_)
                have zs_ke_32 := ke_32.size
                replace hc := hc.pure ke_32
                replace hb := hb.pure ke_32
                replace hw := hw.pure ke_32
                refine WX.then_normal (WC.cond_true rfl (WC.seq (WC.region (WL.assign rfl rfl (WL.nil (WX.then_normal (WC.ret (?_))))))))
                refine WX.block_ret (WX.then_ret (WX.then_ret (WX.block_ret (WX.then_ret (?_)))))
                refine WX.ret1 (.inl rfl) Try.results33 rfl ?_
                first
                  | (refine ⟨_, rfl, ?_, hw⟩
                     rw [errB_shape (by omega)])
                  | (refine ⟨_, rfl, ?_, hw⟩
                     rw [errB_bad (by rw [hxl]; exact OkBad.no hbi (by omega))])
                  | (refine ⟨_, rfl, ?_, hw⟩
                     rw [errB_bad (by rw [hxl]; exact OkBad.no2 hbi (hd0 (by omega)) (by omega) (by omega))])
                  | (refine ⟨_, rfl, ?_, hw⟩
                     rw [errB_len (by omega)])
                  | (refine ⟨_, rfl, ?_, hw⟩
                     rw [errB_ok (by omega) hok (by omega), if_neg (show ¬ bad.length ≤ 3 by omega)])
                  | (refine ⟨_, rfl, ?_, hw⟩
                     rw [errB_ok (by omega) hok (by omega), if_pos (show bad.length ≤ 3 by omega)])
              case hf =>
                intro h47
                replace h47 := of_decide_eq_false h47
                apply DQ.step (E' := [(37, _), (47, _), (34, _)])
                case ho => rfl
                case hs => exact ⟨rfl, rfl, rfl, trivial⟩
                case hk => rfl
                case h1 =>
                  intro wq_30 kq_30
                  refine WL.want rfl rfl rfl (WL.pickT rfl rfl rfl (?_))
                  refine WL.nil ?_
                  exact WX.one ⟨rfl, by first | exact Chg.refl _ _ | assumption⟩
                apply DQ.step (E' := [(34, _), (48, _)])
                case ho => rfl
                case hs => exact ⟨rfl, rfl, trivial⟩
                case hk => rfl
                case h1 =>
                  intro wq_31 kq_31
                  refine WL.pickF rfl rfl rfl (?_)
                  refine WL.nil ?_
                  exact WX.one ⟨rfl, by first | exact Chg.refl _ _ | assumption⟩
                refine DQ.done (fun _ => ?_)
                refine DL.done (fun we_32 ke_32 => ?_)
                have zs_ke_32 := ke_32.size
                replace hc := hc.pure ke_32
                replace hb := hb.pure ke_32
                replace hw := hw.pure ke_32
                refine WX.then_normal (WC.cond_false rfl (WC.skip (WX.block_normal (WX.then_normal (WC.region (WL.move rfl rfl (WL.add64 rfl rfl (by first | omega | (constructor <;> omega)) rfl (?_))))))))
                refine WL.assign rfl rfl (WL.nil (?_))
                exact WX.loop_next (i + 1) ⟨rfl, rfl, rfl, trivial⟩ ⟨by omega, hI.next hbi ⟨by omega, by omega⟩ (fun c' h1 h2 => by first | (rw [hd0 h1] at h2; injection h2; omega) | omega), hc, hb, hw⟩ (by show bad.length - (i + 1) < bad.length - i; omega)
            case hf =>
              intro h36
              replace h36 := of_decide_eq_false h36
              apply DQ.step (E' := [(36, _), (34, _)])
              case ho => rfl
              case hs => exact ⟨rfl, rfl, trivial⟩
              case hk => rfl
              case h1 =>
                intro wq_19 kq_19
                refine WL.want rfl rfl rfl (WL.move rfl rfl (?_))
                refine WL.nil ?_
                exact WX.one ⟨rfl, by first | exact Chg.refl _ _ | assumption⟩
              apply DQ.step (E' := [(1, _), (37, _)])
              case ho => rfl
              case hs => exact ⟨rfl, rfl, trivial⟩
              case hk => rfl
              case h1 =>
                intro wq_20 kq_20
                refine WL.pass rfl rfl rfl rfl (WL.nil (?_))
                exact WX.one ⟨rfl, by first | exact Chg.refl _ _ | assumption⟩
              apply DQ.step (E' := [(5, _), (37, _)])
              case ho => rfl
              case hs => exact ⟨rfl, rfl, trivial⟩
              case hk => rfl
              case h1 =>
                intro wq_21 kq_21
                refine WL.pass rfl rfl rfl rfl (WL.nil (?_))
                exact WX.one ⟨rfl, by first | exact Chg.refl _ _ | assumption⟩
              apply DQ.step (E' := [(38, _), (39, _), (37, _)])
              case ho => rfl
              case hs => exact ⟨rfl, rfl, rfl, trivial⟩
              case hk => rfl
              case h1 =>
                intro wq_22 kq_22
                have zs_kq_22 := kq_22.size
                replace hc := hc.pure kq_22
                replace hb := hb.pure kq_22
                replace hw := hw.pure kq_22
                refine WL.pass rfl rfl rfl rfl (WL.nil (?_))
                exact WX.one ⟨rfl, by first | exact Chg.refl _ _ | assumption⟩
              apply DQ.step (E' := [(40, _), (37, _)])
              case ho => rfl
              case hs => exact ⟨rfl, rfl, trivial⟩
              case hk => rfl
              case h1 =>
                intro wq_23 kq_23
                have zs_kq_23 := kq_23.size
                replace hc := hc.pure kq_23
                replace hb := hb.pure kq_23
                replace hw := hw.pure kq_23
                refine WL.pass rfl rfl rfl rfl (WL.nil (?_))
                exact WX.one ⟨rfl, by first | exact Chg.refl _ _ | assumption⟩
              apply DQ.step (E' := [(1, _), (37, _)])
              case ho => rfl
              case hs => exact ⟨rfl, rfl, trivial⟩
              case hk => rfl
              case h1 =>
                intro wq_24 kq_24
                refine WL.pass rfl rfl rfl rfl (WL.nil (?_))
                exact WX.one ⟨rfl, by first | exact Chg.refl _ _ | assumption⟩
              apply DQ.step (E' := [(5, _), (37, _)])
              case ho => rfl
              case hs => exact ⟨rfl, rfl, trivial⟩
              case hk => rfl
              case h1 =>
                intro wq_25 kq_25
                refine WL.pass rfl rfl rfl rfl (WL.nil (?_))
                exact WX.one ⟨rfl, by first | exact Chg.refl _ _ | assumption⟩
              apply DQ.step (E' := [(43, _), (37, _)])
              case ho => rfl
              case hs => exact ⟨rfl, rfl, trivial⟩
              case hk => rfl
              case h1 =>
                intro wq_26 kq_26
                refine WL.pass rfl rfl rfl rfl (WL.nil (?_))
                exact WX.one ⟨rfl, by first | exact Chg.refl _ _ | assumption⟩
              apply DQ.step (E' := [(42, _), (44, _), (37, _)])
              case ho => rfl
              case hs => exact ⟨rfl, rfl, rfl, trivial⟩
              case hk => rfl
              case h1 =>
                intro wq_27 kq_27
                have zs_kq_27 := kq_27.size
                replace hc := hc.pure kq_27
                replace hb := hb.pure kq_27
                replace hw := hw.pure kq_27
                refine WL.pass rfl rfl rfl rfl (WL.nil (?_))
                exact WX.one ⟨rfl, by first | exact Chg.refl _ _ | assumption⟩
              apply DQ.step (E' := [(45, _), (37, _)])
              case ho => rfl
              case hs => exact ⟨rfl, rfl, trivial⟩
              case hk => rfl
              case h1 =>
                intro wq_28 kq_28
                have zs_kq_28 := kq_28.size
                replace hc := hc.pure kq_28
                replace hb := hb.pure kq_28
                replace hw := hw.pure kq_28
                refine WL.pass rfl rfl rfl rfl (WL.nil (?_))
                exact WX.one ⟨rfl, by first | exact Chg.refl _ _ | assumption⟩
              apply DQ.step (E' := [(41, _), (46, _), (37, _)])
              case ho => rfl
              case hs => exact ⟨rfl, rfl, rfl, trivial⟩
              case hk => rfl
              case h1 =>
                intro wq_29 kq_29
                refine WL.pass rfl rfl rfl rfl (WL.nil (?_))
                exact WX.one ⟨rfl, by first | exact Chg.refl _ _ | assumption⟩
              apply DQ.step (E' := [(37, _), (47, _), (34, _)])
              case ho => rfl
              case hs => exact ⟨rfl, rfl, rfl, trivial⟩
              case hk => rfl
              case h1 =>
                intro wq_30 kq_30
                refine WL.want rfl rfl rfl (WL.pickF rfl rfl rfl (?_))
                refine WL.nil ?_
                exact WX.one ⟨rfl, by first | exact Chg.refl _ _ | assumption⟩
              apply DQ.step (E' := [(34, _), (48, _)])
              case ho => rfl
              case hs => exact ⟨rfl, rfl, trivial⟩
              case hk => rfl
              case h1 =>
                intro wq_31 kq_31
                refine WL.pickF rfl rfl rfl (?_)
                refine WL.nil ?_
                exact WX.one ⟨rfl, by first | exact Chg.refl _ _ | assumption⟩
              refine DQ.done (fun _ => ?_)
              refine DL.done (fun we_32 ke_32 => ?_)
              have zs_ke_32 := ke_32.size
              replace hc := hc.pure ke_32
              replace hb := hb.pure ke_32
              replace hw := hw.pure ke_32
              refine WX.then_normal (WC.cond_false rfl (WC.skip (WX.block_normal (WX.then_normal (WC.region (WL.move rfl rfl (WL.add64 rfl rfl (by first | omega | (constructor <;> omega)) rfl (?_))))))))
              refine WL.assign rfl rfl (WL.nil (?_))
              exact WX.loop_next (i + 1) ⟨rfl, rfl, rfl, trivial⟩ ⟨by omega, hI.next hbi ⟨by omega, by omega⟩ (fun c' h1 h2 => by first | (rw [hd0 h1] at h2; injection h2; omega) | omega), hc, hb, hw⟩ (by show bad.length - (i + 1) < bad.length - i; omega)
      ·
        refine WL.nil (WX.then_normal (WC.cond_false rfl (WC.exit (WX.then_exit (WX.then_exit (WX.block_here (WX.then_normal (?_))))))))
        refine WC.seq (WC.seq (WC.region (WL.move rfl rfl (WL.move rfl rfl (?_)))))
        have hok : OkBad (xss rs).length bad := by rw [hxl]; exact hI.done (by omega)
        refine WL.call eg_34 rfl rfl (even_calls2 hc hb hl hbl) ?_
        rintro v w1 ⟨rfl, k⟩
        have zs_k := k.size
        replace hc := hc.pure k
        replace hb := hb.pure k
        replace hw := hw.pure k
        refine WL.lss? rfl rfl rfl (fun h53 => ?_) (fun h53 => ?_)
        ·
          refine WL.nil (WX.then_normal (WC.cond_true rfl (WC.seq (WC.region (WL.assign rfl rfl (WL.nil (WX.then_normal (?_))))))))
          refine WC.ret (WX.then_ret (?_))
          refine WX.ret1 (.inl rfl) Try.results33 rfl ?_
          first
            | (refine ⟨_, rfl, ?_, hw⟩
               rw [errB_shape (by omega)])
            | (refine ⟨_, rfl, ?_, hw⟩
               rw [errB_bad (by rw [hxl]; exact OkBad.no hbi (by omega))])
            | (refine ⟨_, rfl, ?_, hw⟩
               rw [errB_bad (by rw [hxl]; exact OkBad.no2 hbi (hd0 (by omega)) (by omega) (by omega))])
            | (refine ⟨_, rfl, ?_, hw⟩
               rw [errB_len (by omega)])
            | (refine ⟨_, rfl, ?_, hw⟩
               rw [errB_ok (by omega) hok (by omega), if_neg (show ¬ bad.length ≤ 3 by omega)])
            | (refine ⟨_, rfl, ?_, hw⟩
               rw [errB_ok (by omega) hok (by omega), if_pos (show bad.length ≤ 3 by omega)])
        ·
          refine WL.nil (WX.then_normal (WC.cond_false rfl (WC.skip (WX.then_normal (WC.seq (WC.seq (WC.region (?_))))))))
          refine WL.move rfl rfl (WL.len Try.underlying33 rfl rfl (?_))
          refine WL.gtr? rfl rfl rfl (fun h56 => ?_) (fun h56 => ?_)
          ·
            refine WL.nil (WX.then_normal (WC.cond_true rfl (WC.seq (WC.region (WL.assign rfl rfl (WL.nil (WX.then_normal (?_))))))))
            refine WC.ret (WX.then_ret (?_))
            refine WX.ret1 (.inl rfl) Try.results33 rfl ?_
            first
              | (refine ⟨_, rfl, ?_, hw⟩
                 rw [errB_shape (by omega)])
              | (refine ⟨_, rfl, ?_, hw⟩
                 rw [errB_bad (by rw [hxl]; exact OkBad.no hbi (by omega))])
              | (refine ⟨_, rfl, ?_, hw⟩
                 rw [errB_bad (by rw [hxl]; exact OkBad.no2 hbi (hd0 (by omega)) (by omega) (by omega))])
              | (refine ⟨_, rfl, ?_, hw⟩
                 rw [errB_len (by omega)])
              | (refine ⟨_, rfl, ?_, hw⟩
                 rw [errB_ok (by omega) hok (by omega), if_neg (show ¬ bad.length ≤ 3 by omega)])
              | (refine ⟨_, rfl, ?_, hw⟩
                 rw [errB_ok (by omega) hok (by omega), if_pos (show bad.length ≤ 3 by omega)])
          ·
            refine WL.nil (WX.then_normal (WC.cond_false rfl (WC.skip (WX.then_normal (WC.seq (WC.region (WL.assign rfl rfl (?_))))))))
            refine WL.nil (WX.then_normal (WC.ret (?_)))
            refine WX.ret1 (.inl rfl) Try.results33 rfl ?_
            first
              | (refine ⟨_, rfl, ?_, hw⟩
                 rw [errB_shape (by omega)])
              | (refine ⟨_, rfl, ?_, hw⟩
                 rw [errB_bad (by rw [hxl]; exact OkBad.no hbi (by omega))])
              | (refine ⟨_, rfl, ?_, hw⟩
                 rw [errB_bad (by rw [hxl]; exact OkBad.no2 hbi (hd0 (by omega)) (by omega) (by omega))])
              | (refine ⟨_, rfl, ?_, hw⟩
                 rw [errB_len (by omega)])
              | (refine ⟨_, rfl, ?_, hw⟩
                 rw [errB_ok (by omega) hok (by omega), if_neg (show ¬ bad.length ≤ 3 by omega)])
              | (refine ⟨_, rfl, ?_, hw⟩
                 rw [errB_ok (by omega) hok (by omega), if_pos (show bad.length ≤ 3 by omega)])
end Go.Proofs.Ytjdbjdgobhjbkaa
namespace Go.HL
open Go.RowKit
/-! regions that draw their order, the loud operations in any order that the edges allow -/
def preds (ops : Array Oper) (rs : List Nat) (i : Nat) : Bool := rs.any fun j => before? ops j i
def AllB : List Nat → (Nat → Bool) → (Nat → Prop) → Prop
  | [], _, _ => True
  | a :: l, p, f => (bif p a then True else f a) ∧ AllB l p f
theorem AllB_mem : ∀ {l : List Nat} {p : Nat → Bool} {f : Nat → Prop}, AllB l p f → ∀ i ∈ l, p i = false → f i
  | [], _, _, _, i, hi, _ => by cases hi
  | a :: l, p, f, h, i, hi, hp => by
    rcases List.mem_cons.1 hi with rfl | h1
    · have := h.1
      rw [hp] at this
      exact this
    · exact AllB_mem h.2 i h1 hp
def drawOkT (ops : Array Oper) (C R : List Nat) : Bool :=
  ((List.range ops.size).all fun i => C.contains i || R.contains i) && ((C ++ R).all fun i => decide (i < ops.size)) &&
  ((List.range ops.size).all fun i => (List.range ops.size).all fun j => i == j || dstOf ops i == none || dstOf ops i != dstOf ops j) &&
  ((List.range ops.size).all fun i => ((ops[i]?).map (·.after.toList.all fun e => !Region.binds .any e || decide (e.on < i))).getD true) &&
  srcOk ops [] (C ++ R) && (R.all fun i => (List.range ops.size).all fun j => (looks ops i).all fun t => dstOf ops j != some t || (if C.contains j then before? ops j i else before? ops j i || before? ops i j)) && nodupB (C ++ R)
section
variable (P : Program) (ops : Array Oper) (Q : Exit → Act → World → Prop) (N : Nat) (K : World → Prop) (w0 : World)
def DT : Nat → List Nat → Env → World → Prop
  | 0, _, E, w => ∀ w', Chg Nob w w' → WX Q .normal N E w'
  | n + 1, rs, E, w => AllB rs (preds ops rs) fun i => ∀ w', Chg Nob w w' → ∀ o, ops[i]? = some o → WL P ops (One o.dst fun v w'' => K w'' ∧ DT n (rs.erase i) (putE E o.dst v) w'') N [o] (restr ops i E) w'
def DQT (R : List Nat) : List Nat → Env → Prop
  | [], E => DT P ops Q N K R.length R E w0
  | i :: is, E => ∃ v, (∀ o, ops[i]? = some o → ∀ w', K w' → WL P ops (One o.dst fun u w'' => u = v ∧ Chg Nob w' w'') N [o] (restr ops i E) w') ∧ DQT R is (putE E (dstOf ops i) v)
end
section
variable {P : Program} {ops : Array Oper} {Q : Exit → Act → World → Prop} {N : Nat} {K : World → Prop} {w0 : World} {E0 : Env}
theorem DQT_spec {R : List Nat} : ∀ {is : List Nat} {E : Env}, is.Nodup → DQT P ops Q N K w0 R is E → ∃ c : Nat → Value, DT P ops Q N K R.length R (envAfter ops c is E) w0 ∧
    ∀ pre i post, is = pre ++ i :: post → ∀ o, ops[i]? = some o → ∀ w', K w' → WL P ops (One o.dst fun u w'' => u = c i ∧ Chg Nob w' w'') N [o] (restr ops i (envAfter ops c pre E)) w'
  | [], E, _, h => ⟨fun _ => undef, h, fun pre i post hx => by cases pre <;> cases hx⟩
  | i :: is, E, hn, h => by
    obtain ⟨v, h1, h2⟩ := h
    obtain ⟨c, h3, h4⟩ := DQT_spec (List.nodup_cons.1 hn).2 h2
    have hi := (List.nodup_cons.1 hn).1
    let c' : Nat → Value := fun j => if j = i then v else c j
    have hc : ∀ j, j ∈ is → c j = c' j := fun j hj => by
      have : j ≠ i := fun e => hi (e ▸ hj)
      simp [c', this]
    have hci : c' i = v := by simp [c']
    refine ⟨c', ?_, ?_⟩
    · show DT P ops Q N K R.length R (envAfter ops c' is (putE E (dstOf ops i) (c' i))) w0
      rw [hci, ← envAfter_congr ops c c' is _ hc]
      exact h3
    · intro pre j post hx o ho w' hw
      cases pre with
      | nil =>
        injection hx with hx1 hx2
        subst hx1
        rw [hci]
        exact h1 o ho w' hw
      | cons p pre =>
        injection hx with hx1 hx2
        subst hx1
        have := h4 pre j post hx2 o ho w' hw
        have hj : j ∈ is := by rw [hx2]; simp
        rw [hc j hj, envAfter_congr ops c c' pre _ (fun k hk => hc k (by rw [hx2]; simp [hk]))] at this
        show WL P ops _ N [o] (restr ops j (envAfter ops c' pre (putE E (dstOf ops i) (c' i)))) w'
        rw [hci]
        exact this

theorem WC.drawT {id : Nat} (K : World → World → Prop) (C R : List Nat) (hm : P.follows .mixedOrders = true) (hok : drawOkT ops C R = true) (hN : ((List.range ops.size).all fun i => (dstOf ops i).all fun t => Nat.blt t N) = true) {w : World} (hK0 : K w.drew w.drew) (hKp : ∀ wd a b, K wd a → Chg Nob a b → K wd b)
    (h0 : ∀ wd, Chg Nob w wd → wd.heap.size = w.heap.size → DQT P ops Q N (K wd) wd R C E0) : WC P (.region id ops true) Q N E0 w := fun a0 ha0 => by
  have h := h0 w.drew (Chg.drew w) rfl
  simp only [drawOkT, Bool.and_eq_true, decide_eq_true_eq] at hok
  obtain ⟨⟨⟨⟨⟨⟨hpart, hlt0⟩, hdst0⟩, hback0⟩, hsrc⟩, hsrcT⟩, hnd⟩ := hok
  replace hnd := nodupB_spec hnd
  have hlt : ∀ k ∈ C ++ R, k < ops.size := fun k hk => by simpa using List.all_eq_true.1 hlt0 k hk
  have hdst : ∀ i j, i < ops.size → j < ops.size → i ≠ j → ∀ t, dstOf ops i = some t → dstOf ops j ≠ some t := by
    intro i j hi hj hne t h1 h2
    have := List.all_eq_true.1 (List.all_eq_true.1 hdst0 i (by simpa using hi)) j (by simpa using hj)
    simp [h1, h2, hne] at this
  have hback : ∀ i, i < ops.size → ∀ o, ops[i]? = some o → ∀ e ∈ o.after, Region.binds .any e = true → e.on < i := by
    intro i hi o ho e he hb
    have := List.all_eq_true.1 hback0 i (by simpa using hi)
    simp only [ho, Option.map_some, Option.getD_some] at this
    rw [List.all_eq_true] at this
    have := this e (by simpa using he)
    simpa [hb] using this
  have hNt : ∀ i, i < ops.size → ∀ t, dstOf ops i = some t → t < N := by
    intro i hi t ht
    have := List.all_eq_true.1 hN i (by simpa using hi)
    simpa [ht] using this
  have hin : ∀ i, i < ops.size → i ∈ C ∨ i ∈ R := fun i hi => by simpa using List.all_eq_true.1 hpart i (by simpa using hi)
  have hCn : C.Nodup := (List.nodup_append.1 hnd).1
  obtain ⟨c, hDL, hq⟩ := DQT_spec hCn h
  have hgs : ∀ (listed : Array Bool) (i j : Nat), i < listed.size → (listed.setIfInBounds i true).getD j false = if j = i then true else listed.getD j false := by
    intro listed i j hil
    simp only [Array.getD_eq_getD_getElem?, Array.getElem?_setIfInBounds]
    by_cases e : j = i
    · subst e; simp [hil]
    · have : ¬ i = j := fun x => e x.symm
      simp [this, e]
  have henv : ∀ (vals : Nat → Value) (rd : List Nat), (∀ i ∈ C, vals i = c i) → envAfter ops vals rd (envAfter ops c C E0) = envAfter ops vals (C ++ rd) E0 := by
    intro vals rd hC
    rw [envAfter_append, envAfter_congr ops vals c C E0 hC]
  have fin : ∀ (listed : Array Bool) (a : Act) (w1 wp : World) (vals : Nat → Value) (rd rs : List Nat), (∀ i, i < ops.size → i ∈ C ∨ i ∈ rd ∨ i ∈ rs) → (∀ i ∈ rd ++ rs, i < ops.size) → Mid ops N E0 listed a vals → (∀ i ∈ C, vals i = c i) → (∀ i ∈ rs, listed.getD i false = false) →
      Chg Nob wp w1 → DT P ops Q N (K w.drew) rs.length rs (envAfter ops vals rd (envAfter ops c C E0)) wp → (∀ i, i < ops.size → listed.getD i false = true) → Q .normal a w1 := by
    intro listed a w1 wp vals rd rs hpt hrl m hC hrs hpw hdl hall
    cases rs with
    | cons r rs =>
      have h1 := hall r (hrl r (by simp))
      have h2 := hrs r (by simp)
      rw [h1] at h2; cases h2
    | nil =>
      refine hdl w1 hpw a ⟨m.tsz, m.dfs, fun t v ht => ?_⟩
      rw [henv vals rd hC] at ht
      rcases (Rep.start ops E0 vals).after (C ++ rd) t v ht with ⟨j, hj, hd, rfl⟩ | ⟨h1, h2⟩
      · have hjl : j < ops.size := by
          rcases List.mem_append.1 (by simpa using hj : j ∈ C ++ rd) with h | h
          · exact hlt j (by simp [h])
          · exact hrl j (by simp [h])
        exact m.done j hjl (hall j hjl) t hd
      · refine m.old t v h2 fun j hj _ => h1 j ?_
        rcases hpt j hj with h | h | h
        · simp [h]
        · simp [h]
        · cases h
  have key : ∀ (fuel : Nat) (listed : Array Bool) (a : Act) (w1 wp : World) (vals : Nat → Value) (rd rs : List Nat), (∀ i, i < ops.size → i ∈ C ∨ i ∈ rd ∨ i ∈ rs) → (∀ i ∈ rd ++ rs, i < ops.size ∧ i ∉ C) → rs.Nodup → (∀ i ∈ rd, i ∉ rs) → Mid ops N E0 listed a vals → (∀ i ∈ C, vals i = c i) → (∀ i ∈ rd, listed.getD i false = true) → (∀ i ∈ rs, listed.getD i false = false) →
      K w.drew w1 → Chg Nob wp w1 → DT P ops Q N (K w.drew) rs.length rs (envAfter ops vals rd (envAfter ops c C E0)) wp → ((List.range ops.size).filter fun i => !listed.getD i false).length ≤ fuel → wpAny P .any ops Q fuel listed a w1 := by
    intro fuel
    induction fuel with
    | zero =>
      intro listed a w1 wp vals rd rs hpt hrl hrn hdj m hC hrd hrs hM hpw hdl hf
      have hall : ∀ i, i < ops.size → listed.getD i false = true := by
        intro i hi
        have h0 := List.length_eq_zero_iff.1 (Nat.le_zero.1 hf)
        have : i ∉ (List.range ops.size).filter fun i => !listed.getD i false := by rw [h0]; simp
        simpa [hi] using this
      refine ⟨?_, fin listed a w1 wp vals rd rs hpt (fun i hi => (hrl i hi).1) m hC hrs hpw hdl hall⟩
      refine List.eq_nil_iff_forall_not_mem.2 fun i hi => ?_
      obtain ⟨h1, h2, _⟩ := mem_ready hi
      have h3 := hall i h1
      have : i < listed.size := by rw [m.sz]; exact h1
      simp [Array.getD_eq_getD_getElem?, this] at h2 h3
      rw [h2] at h3; cases h3
    | succ fuel ih =>
      intro listed a w1 wp vals rd rs hpt hrl hrn hdj m hC hrd hrs hM hpw hdl hf
      refine ⟨fun hnil => fin listed a w1 wp vals rd rs hpt (fun i hi => (hrl i hi).1) m hC hrs hpw hdl (ready_nil m.sz hback hnil), fun i hi => ?_⟩
      obtain ⟨hilt, hno, hpre⟩ := mem_ready hi
      have hil : i < listed.size := by rw [m.sz]; exact hilt
      have hno' : listed.getD i false = false := by
        simp [Array.getD_eq_getD_getElem?, hil] at hno ⊢; exact hno
      have ho : ops[i]? = some ops[i] := Array.getElem?_eq_getElem hilt
      have hdo := dstOf_eq ho
      have hf' : ((List.range ops.size).filter fun j => !(listed.setIfInBounds i true).getD j false).length ≤ fuel := by
        have e1 : ((List.range ops.size).filter fun j => !(listed.setIfInBounds i true).getD j false) = ((List.range ops.size).filter fun j => !listed.getD j false).filter fun j => j != i := by
          rw [List.filter_filter]
          congr 1
          funext j
          rw [hgs listed i j hil]
          by_cases e : j = i <;> simp [e]
        rw [e1]
        have : (((List.range ops.size).filter fun j => !listed.getD j false).filter fun j => j != i).length < ((List.range ops.size).filter fun j => !listed.getD j false).length := by
          rw [List.length_filter_lt_length_iff_exists]
          exact ⟨i, List.mem_filter.2 ⟨by simpa using hilt, by rw [hno']; rfl⟩, by simp⟩
        omega
      by_cases hiC : i ∈ C
      · obtain ⟨pre, post, hsp⟩ := List.append_of_mem hiC
        have h1 := hq pre i post hsp _ ho w1 hM
        have hpc : ∀ k ∈ pre, vals k = c k := fun k hk => hC k (by rw [hsp]; simp [hk])
        have hrep : Rep ops E0 vals pre (envAfter ops c pre E0) := by
          have := (Rep.start ops E0 vals).after pre
          rw [envAfter_congr ops vals c pre E0 hpc] at this
          simpa using this
        have hh := m.holds hsrc (pre := pre) (post := post ++ R) (i := i) (by rw [hsp]; simp) hlt hrep hpre hno
        refine wpOp_mono ?_ (wpOp_of_WL ho hh (fun t ht => hNt i hilt t (by rw [hdo]; exact ht)) h1)
        rintro a' w' ⟨v, rfl, rfl, k⟩
        rw [← hdo]
        have hv : ∀ j, (if j = i then c i else vals j) = vals j := fun j => by
          by_cases e : j = i
          · subst e; simp [hC j hiC]
          · simp [e]
        have hm' := m.put hilt hdst (hNt i hilt) hpre hno (c i)
        simp only [hv] at hm'
        refine ih _ _ w' wp vals rd rs hpt hrl hrn hdj hm' hC (fun j hj => ?_) (fun j hj => ?_) (hKp _ _ _ hM k) (hpw.pure k) hdl hf'
        · rw [hgs listed i j hil]; split
          · rfl
          · exact hrd j hj
        · have : j ≠ i := by rintro rfl; exact (hrl j (by simp [hj])).2 hiC
          rw [hgs listed i j hil, if_neg this]; exact hrs j hj
      · have hird : i ∉ rd := fun hx => by have := hrd i hx; rw [hno'] at this; cases this
        have hirs : i ∈ rs := (hpt i hilt).elim (fun h => absurd h hiC) (fun h => h.elim (fun h => absurd h hird) (fun h => h))
        have hpr : preds ops rs i = false := by
          rw [preds, List.any_eq_false]
          intro p hp hb
          have h1 := hpre p hb
          have h2 := hrs p hp
          rw [h1] at h2; cases h2
        obtain ⟨n, hn⟩ : ∃ n, rs.length = n + 1 := ⟨rs.length - 1, by have := List.length_pos_of_mem hirs; omega⟩
        rw [hn] at hdl
        have h1 := AllB_mem hdl i hirs hpr w1 hpw _ ho
        rw [henv vals rd hC] at h1
        have hrep : Rep ops E0 vals (C ++ rd) (envAfter ops vals (C ++ rd) E0) := by simpa using (Rep.start ops E0 vals).after (C ++ rd)
        have hh : Holds N (restr ops i (envAfter ops vals (C ++ rd) E0)) a := by
          have hsT : ∀ t ∈ looks ops i, ∀ j, j < ops.size → dstOf ops j = some t → (j ∈ C → before? ops j i = true) ∧ (before? ops j i = true ∨ before? ops i j = true) := by
            intro t ht j hj hd
            have q1 := List.all_eq_true.1 hsrcT i (by rcases hin i hilt with h | h; exact absurd h hiC; exact h)
            have q2 := List.all_eq_true.1 (List.all_eq_true.1 q1 j (by simpa using hj)) t ht
            simp only [hd, bne_self_eq_false, Bool.false_or] at q2
            by_cases hjC : C.contains j = true
            · rw [hjC] at q2
              simp at q2
              exact ⟨fun _ => q2, .inl q2⟩
            · simp only [Bool.not_eq_true] at hjC
              rw [hjC] at q2
              simp at q2
              exact ⟨fun h => by simp [h] at hjC, q2⟩
          refine ⟨m.tsz, m.dfs, fun t v ht => ?_⟩
          obtain ⟨g1, g2⟩ := restr_lookup ht
          rcases hrep t v g2 with ⟨j, hj, hd, rfl⟩ | ⟨g3, g4⟩
          · have hjl : j < ops.size := by
              rcases List.mem_append.1 (by simpa using hj : j ∈ C ++ rd) with h | h
              · exact hlt j (by simp [h])
              · exact (hrl j (by simp [h])).1
            have hb : before? ops j i = true := by
              rcases List.mem_append.1 (by simpa using hj : j ∈ C ++ rd) with h | h
              · exact (hsT t g1 j hjl hd).1 h
              · rcases (hsT t g1 j hjl hd).2 with h5 | h5
                · exact h5
                · have h6 := m.clo j hjl (hrd j h) i h5
                  rw [hno'] at h6; cases h6
            exact m.done j hjl (hpre j hb) t hd
          · refine m.old t v g4 fun j hj hl hd => ?_
            rcases hpt j hj with h | h | h
            · exact g3 j (by simp [h]) hd
            · exact g3 j (by simp [h]) hd
            · rw [hrs j h] at hl; cases hl
        refine wpOp_mono ?_ (wpOp_of_WL ho hh (fun t ht => hNt i hilt t (by rw [hdo]; exact ht)) h1)
        rintro a' w' ⟨v, rfl, hM', hdl'⟩
        have hm' := m.put hilt hdst (hNt i hilt) hpre hno v
        rw [← hdo]
        have hC' : ∀ j ∈ C, (if j = i then v else vals j) = c j := fun j hj => by
          have : j ≠ i := by rintro rfl; exact hiC hj
          rw [if_neg this]; exact hC j hj
        have hcr : ∀ j ∈ C ++ rd, vals j = (if j = i then v else vals j) := fun j hj => by
          have : j ≠ i := by rintro rfl; exact (List.mem_append.1 hj).elim hiC hird
          rw [if_neg this]
        have her : ∀ j, j ∈ rs.erase i ↔ j ≠ i ∧ j ∈ rs := fun j => List.Nodup.mem_erase_iff hrn
        refine ih _ _ w' w' (fun j => if j = i then v else vals j) (rd ++ [i]) (rs.erase i) (fun j hj => ?_) (fun j hj => ?_) (hrn.erase i) (fun j hj => ?_) hm' hC' (fun j hj => ?_) (fun j hj => ?_) hM' (Chg.refl _ _) ?_ hf'
        · rcases hpt j hj with h | h | h
          · exact .inl h
          · exact .inr (.inl (by simp [h]))
          · by_cases e : j = i
            · exact .inr (.inl (by simp [e]))
            · exact .inr (.inr ((her j).2 ⟨e, h⟩))
        · rcases List.mem_append.1 hj with h | h
          · rcases List.mem_append.1 h with h | h
            · exact hrl j (by simp [h])
            · have : j = i := by simpa using h
              subst this
              exact hrl j (by simp [hirs])
          · exact hrl j (by simp [((her j).1 h).2])
        · intro h
          have h5 := (her j).1 h
          rcases List.mem_append.1 hj with h6 | h6
          · exact hdj j h6 h5.2
          · exact h5.1 (by simpa using h6)
        · rw [hgs listed i j hil]; split
          · rfl
          · rename_i hne
            rcases List.mem_append.1 hj with hj | hj
            · exact hrd j hj
            · exact absurd (by simpa using hj) hne
        · have h5 := (her j).1 hj
          rw [hgs listed i j hil, if_neg h5.1]; exact hrs j h5.2
        · rw [henv _ (rd ++ [i]) hC', ← List.append_assoc, envAfter_append, ← envAfter_congr ops vals _ (C ++ rd) E0 hcr]
          simp only [envAfter, if_true]
          rw [hdo, List.length_erase_of_mem hirs, hn]
          exact hdl'
  refine wp_region_any hm ?_
  refine key ops.size _ a0 w.drew w.drew c [] R (fun i hi => (hin i hi).elim .inl (fun h => .inr (.inr h))) (fun i hi => ⟨hlt i (by simpa using Or.inr (by simpa using hi)), fun h => (List.nodup_append.1 hnd).2.2 i h i (by simpa using hi) rfl⟩) (List.nodup_append.1 hnd).2.1 (fun i h => by cases h) ?_ (fun _ _ => rfl) (fun _ h => by cases h) (fun i hi => ?_) hK0 (Chg.refl _ _) hDL ?_
  · refine ⟨by simp, ha0.size, ha0.defs, fun i hi hl => ?_, fun t v ht _ => ha0.env t v ht, fun i hi hl => ?_⟩
    · simp [Array.getD_eq_getD_getElem?, hi] at hl
    · simp [Array.getD_eq_getD_getElem?, hi] at hl
  · have hi' := hlt i (by simp [hi])
    simp [Array.getD_eq_getD_getElem?, hi']
  · refine Nat.le_trans (List.length_filter_le _ _) (by simp)
theorem WC.drawM {id : Nat} (M : Nat → Prop) (C R : List Nat) (hm : P.follows .mixedOrders = true) (hok : drawOkT ops C R = true) (hN : ((List.range ops.size).all fun i => (dstOf ops i).all fun t => Nat.blt t N) = true) {w : World}
    (h0 : ∀ wd, Chg Nob w wd → wd.heap.size = w.heap.size → DQT P ops Q N (Chg M wd) wd R C E0) : WC P (.region id ops true) Q N E0 w :=
  WC.drawT (fun wd => Chg M wd) C R hm hok hN (Chg.refl _ _) (fun _ _ _ h k => h.pure k) h0
end
section
variable {P : Program} {ops : Array Oper} {Q : Exit → Act → World → Prop} {N : Nat} {M : Nat → Prop} {K : World → Prop} {w0 w : World} {E E' : Env} {R is : List Nat} {i : Nat} {o : Oper}
theorem DQT.step {v : Value} (E' : Env) (ho : ops[i]? = some o) (hs : Sub E' E) (hk : (E'.all fun p => (looks ops i).contains p.1) = true)
    (h1 : ∀ w', K w' → WL P ops (One o.dst fun u w'' => u = v ∧ Chg Nob w' w'') N [o] E' w') (h2 : DQT P ops Q N K w0 R is (putE E o.dst v)) : DQT P ops Q N K w0 R (i :: is) E :=
  ⟨v, fun o' ho' w' hw => by rw [ho] at ho'; injection ho' with ho'; subst ho'; exact (h1 w' hw).sub (sub_restr hs hk), by rw [dstOf_eq ho]; exact h2⟩
theorem DQT.split {b : Bool} (E' : Env) (ho : ops[i]? = some o) (hs : Sub E' E) (hk : (E'.all fun p => (looks ops i).contains p.1) = true)
    (h1 : ∀ w', K w' → WL P ops (One o.dst fun u w'' => u = .bool b ∧ Chg Nob w' w'') N [o] E' w') (ht : b = true → DQT P ops Q N K w0 R is (putE E o.dst (.bool true))) (hf : b = false → DQT P ops Q N K w0 R is (putE E o.dst (.bool false))) : DQT P ops Q N K w0 R (i :: is) E :=
  DQT.step E' ho hs hk h1 (by
    cases b
    · exact hf rfl
    · exact ht rfl)
theorem DQT.done (h : Chg M w0 w0 → DT P ops Q N (Chg M w0) R.length R E w0) : DQT P ops Q N (Chg M w0) w0 R [] E := h (Chg.refl _ _)
theorem DT.step {T : Env → World → Prop} (E' : Env) (ho : ops[i]? = some o) (hs : Sub E' E) (hk : (E'.all fun p => (looks ops i).contains p.1) = true)
    (h1 : ∀ w', Chg Nob w w' → WL P ops (One o.dst fun v w'' => K w'' ∧ T (putE E o.dst v) w'') N [o] E' w') :
    ∀ w', Chg Nob w w' → ∀ o', ops[i]? = some o' → WL P ops (One o'.dst fun v w'' => K w'' ∧ T (putE E o'.dst v) w'') N [o'] (restr ops i E) w' :=
  fun w' hw o' ho' => by rw [ho] at ho'; injection ho' with ho'; subst ho'; exact (h1 w' hw).sub (sub_restr hs hk)
theorem DT.done (h : ∀ w', Chg Nob w w' → WX Q .normal N E w') (rs : List Nat) : DT P ops Q N K 0 rs E w := h
end
end Go.HL
namespace Go.HL
open Go.RowKit
section
variable {P : Program} {ops : Array Oper} {Q : Exit → Act → World → Prop} {N : Nat} {E : Env} {w : World} {rest : List Oper} {ty : TypeId} {pos : String} {af : Array Edge} {d : Nat} {α : Type} {e : Enc α} {S : Nat → Prop}
/-- append to a row that has no room: always a new block -/
theorem WL.append0 {t tx T : TypeId} {s x : Operand} {ao : Option Addr} {bytes : Nat} {ys : List α} {z v : Value} (hinfo : (P.info? T).map (fun i => (i.zero, i.size, i.bytes)) = some (some z, e.sz, bytes)) (hzs : z.cells.size = e.sz)
    (ht : P.underlying t = some (.slice T)) (hs : ev E s = some (.slice ao 0 0)) (hx : ev E x = some v) (ho : Row S w T e ao 0 ([] : List α)) (hsrc : Src P e.sz tx v ys.length (e.all ys) w) (hne : 0 < ys.length)
    (hb : ys.length * bytes ≤ 140737488355328 ∧ ys.length ≤ 9223372036854775807) (hd : Nat.blt d N = true)
    (h : ∀ g c2 w', Row (fun b => b = g) w' T e (some ⟨g, 0, none⟩) c2 ys → Chg Nob w w' → g = w.heap.size → w'.heap.size = w.heap.size + 1 → WL P ops Q N rest ((d, .slice (some ⟨g, 0, none⟩) ys.length c2) :: E) w') :
    WL P ops Q N (⟨some d, .call ⟨.builtin .append, #[s, x], #[t, tx]⟩, ty, pos, af, none⟩ :: rest) E w := by
  obtain ⟨i, hi, h1, h2, h3⟩ := info_parts hinfo
  have hn63 : 0 + ys.length ≤ maxLen := by simpa [maxLen] using hb.2
  have hold : (Builtin.firstCells i.size 0 (.slice ao 0 0)).run P w.drew = .ok ([] : List Value).toArray w.drew := by
    cases ao with
    | none => simp [Builtin.firstCells]
    | some b => exact run_firstCells_some w.drew i.size 0 b 0 0 [] (by simp) (fun j v h => by simp at h)
  have hr := run_append_grow_src (P := P) w t tx ty T i z ht hi h1 ao 0 0 [] hold v ys.length (e.all ys) (by rw [h2]; exact hsrc) (by omega) (by omega) (growslice_fits (by omega) (by rw [h3]; simpa using hb.1))
  have hge := grownCap_ge w (0 + ys.length) 0 T
  have hcm : grownCap w (0 + ys.length) 0 T ≤ maxLen := grownCap_le_maxLen w (0 + ys.length) 0 T hn63
  have hlen : (e.all ys).length = ys.length * e.sz := Enc.all_len _ _
  obtain ⟨cap, hcap⟩ : ∃ cap, cap = grownCap w (0 + ys.length) 0 T := ⟨_, rfl⟩
  rw [← hcap] at hr hge hcm
  obtain ⟨W', hW'⟩ : ∃ W', W' = w.drew.alloc (.cells (([] ++ e.all ys).toArray ++ Builtin.zeroCells z.cells (cap - (0 + ys.length))) T) := ⟨_, rfl⟩
  rw [← hW', Nat.zero_add] at hr
  refine WL.run (.slice (some ⟨w.heap.size, 0, none⟩) ys.length cap) W' (fun a ha => by simp [execOp, resolve, invoke, builtin, ev_eval ha hs, ev_eval ha hx, hr]) hd ?_
  subst hW'
  have hnew := h w.heap.size cap (w.drew.alloc (.cells (([] ++ e.all ys).toArray ++ Builtin.zeroCells z.cells (cap - (0 + ys.length))) T)) ?_ ⟨rfl, rfl, rfl, by simp, fun k hk _ => Below.heap_alloc w.drew _ k hk⟩ rfl (by simp)
  · exact hnew
  · refine ⟨fun a ea => by injection ea with ea; subst ea; rfl, hlen, by omega, .inr ⟨w.heap.size, _, (0, 0), rfl, heap_alloc_new w.drew _, fun j _ h => by omega, hcm, ?_, ?_⟩⟩
    · simp only [Array.size_append, List.size_toArray, size_zeroCells, hzs, List.nil_append, hlen, ← Nat.add_mul]
      congr 1
      omega
    · simp only [Array.toList_append, List.nil_append]
      rw [← hlen]
      exact List.take_left
end
end Go.HL
namespace Go.HL
open Go.RowKit
/-! maps whose keys and values are known by codes -/
section plain
variable {K V : Type} [DecidableEq K]
def mget : List (K × V) → K → Option V
  | [], _ => none
  | (k', v) :: r, k => if k = k' then some v else mget r k
def mput : List (K × V) → K → V → List (K × V)
  | [], k, v => [(k, v)]
  | (k', v') :: r, k, v => if k = k' then (k, v) :: r else (k', v') :: mput r k v
def mdel : List (K × V) → K → List (K × V)
  | [], _ => []
  | (k', v') :: r, k => if k = k' then r else (k', v') :: mdel r k
theorem mget_put (l : List (K × V)) (k : K) (v : V) (j : K) : mget (mput l k v) j = if j = k then some v else mget l j := by
  induction l with
  | nil => simp [mput, mget]
  | cons p r ih =>
    obtain ⟨k', v'⟩ := p
    simp only [mput]
    by_cases h : k = k'
    · subst h
      simp only [if_true, mget]
      by_cases h2 : j = k <;> simp [h2]
    · simp only [h, if_false, mget, ih]
      by_cases h2 : j = k'
      · subst h2
        have : ¬ j = k := fun e => h e.symm
        simp [this]
      · simp [h2]
def fnd (l : List (K × V)) (k : K) : Nat → Option (Nat × V) := match l with
  | [] => fun _ => none
  | (k', v) :: r => fun i => if k = k' then some (i, v) else fnd r k (i + 1)
theorem fnd_none {k : K} : ∀ {l : List (K × V)} {i : Nat}, fnd l k i = none → mget l k = none ∧ (∀ v, mput l k v = l ++ [(k, v)]) ∧ mdel l k = l
  | [], _, _ => ⟨rfl, fun _ => rfl, rfl⟩
  | (k', v') :: r, i, h => by
    simp only [fnd] at h
    split at h
    · cases h
    · rename_i hne
      obtain ⟨h1, h2, h3⟩ := fnd_none h
      refine ⟨by simp [mget, hne, h1], fun v => by simp [mput, hne, h2 v], by simp [mdel, hne, h3]⟩
theorem fnd_some {k : K} {v : V} {j : Nat} : ∀ {l : List (K × V)} {i : Nat}, fnd l k i = some (j, v) → ∃ q, j = i + q ∧ l[q]? = some (k, v) ∧ mget l k = some v ∧ (∀ v', mput l k v' = l.set q (k, v')) ∧ mdel l k = l.eraseIdx q
  | [], _, h => by simp [fnd] at h
  | (k', v') :: r, i, h => by
    simp only [fnd] at h
    split at h
    · rename_i he
      subst he
      injection h with h
      injection h with h1 h2
      subst h1; subst h2
      exact ⟨0, rfl, rfl, by simp [mget], fun v' => by simp [mput], by simp [mdel]⟩
    · rename_i hne
      obtain ⟨q, h1, h2, h3, h4, h5⟩ := fnd_some h
      exact ⟨q + 1, by omega, by simpa using h2, by simp [mget, hne, h3], fun v' => by simp [mput, hne, h4 v'], by simp [mdel, hne, h5]⟩
end plain
section
variable {K V : Type} [DecidableEq K] {kv : K → Value} {vv : V → Value}
/-- a map in memory -/
def Mp (kv : K → Value) (vv : V → Value) (w : World) (m : Nat) (l : List (K × V)) : Prop := ∃ es clk, w.heap[m]? = some (.map es clk) ∧ es.toList.map (fun e => (e.key, e.val)) = l.map (fun p => (kv p.1, vv p.2))
omit [DecidableEq K] in
theorem Mp.lt {w : World} {m : Nat} {l : List (K × V)} (h : Mp kv vv w m l) : m < w.heap.size := by
  obtain ⟨es, clk, h1, _⟩ := h
  exact (Array.getElem?_eq_some_iff.1 h1).1
omit [DecidableEq K] in
theorem Mp.chg {M : Nat → Prop} {w w' : World} {m : Nat} {l : List (K × V)} (h : Mp kv vv w m l) (k : Chg M w w') (hm : ¬ M m) : Mp kv vv w' m l := by
  obtain ⟨es, clk, h1, h2⟩ := h
  exact ⟨es, clk, k.obj h1 hm, h2⟩
omit [DecidableEq K] in
theorem Mp.pure {w w' : World} {m : Nat} {l : List (K × V)} (h : Mp kv vv w m l) (k : Chg Nob w w') : Mp kv vv w' m l := h.chg k (fun x => x)
/-- what a type of keys must do -/
structure KeyOk (P : Program) (T : TypeId) (kv : K → Value) : Prop where
  chk : ∀ em w k, (Instr.checkKey em 10000 T (kv k)).run P w = .ok () w
  eq : ∀ w k k', (Op.equal T (kv k) (kv k')).run P w = .ok (decide (k = k')) w
  st : ∃ fs, P.underlying T = some (.struct fs)
  same : ∀ k, Instr.sameBits 10000 (kv k) (kv k) = true
variable {P : Program} {T : TypeId}
theorem run_findAsking (hk : KeyOk P T kv) (w : World) (k : K) : ∀ (es : List MapEntry) (l : List (K × V)) (i : Nat), es.map (fun e => (e.key, e.val)) = l.map (fun p => (kv p.1, vv p.2)) →
    (Instr.findAsking T (kv k) es i).run P w = .ok ((fnd l k i).map fun r => (r.1, vv r.2)) w
  | [], l, i, h => by
    cases l with
    | nil => simp [Instr.findAsking, fnd]
    | cons p r => simp at h
  | e :: es, l, i, h => by
    cases l with
    | nil => simp at h
    | cons p r =>
      obtain ⟨k', v'⟩ := p
      simp only [List.map_cons, List.cons.injEq, Prod.mk.injEq] at h
      obtain ⟨⟨h1, h2⟩, h3⟩ := h
      have ih := run_findAsking hk w k es r (i + 1) h3
      by_cases he : k = k'
      · simp [Instr.findAsking, h1, hk.eq, he, fnd, h2]
      · simp [Instr.findAsking, h1, hk.eq, he, fnd, ih]
theorem run_findKey (hk : KeyOk P T kv) (w : World) (k : K) (es : List MapEntry) (l : List (K × V)) (h : es.map (fun e => (e.key, e.val)) = l.map (fun p => (kv p.1, vv p.2))) :
    (Instr.findKey T (kv k) es).run P w = .ok ((fnd l k 0).map fun r => (r.1, vv r.2)) w := by
  obtain ⟨fs, hu⟩ := hk.st
  have ha := run_findAsking hk w k es l 0 h
  cases es with
  | nil =>
    cases l with
    | nil => simp [Instr.findKey, run_underlying hu, Instr.findNow, fnd]
    | cons p r => simp at h
  | cons e es => simp [Instr.findKey, run_underlying hu, Instr.findNow, Instr.sameNow, ha]
end
section
variable {K V : Type} [DecidableEq K] {kv : K → Value} {vv : V → Value} {P : Program} {ops : Array Oper} {Q : Exit → Act → World → Prop} {N : Nat} {E : Env} {w : World} {rest : List Oper} {d : Nat} {ty t T U : TypeId} {pos : String} {af : Array Edge} {x y z : Operand} {m : Nat} {l : List (K × V)} {k : K}
theorem WL.mlookup {zv : Value} (hk : KeyOk P T kv) (ht : P.underlying t = some (.map T U)) (hz : ∀ w, (zeroValue U).run P w = .ok zv w) (hm : Mp kv vv w m l) (hx : ev E x = some (.map (some m))) (hy : ev E y = some (kv k)) (hd : Nat.blt d N = true)
    (h : WL P ops Q N rest ((d, .tuple #[((mget l k).map vv).getD zv, .bool (mget l k).isSome]) :: E) w) : WL P ops Q N (⟨some d, .lookup t x y true, ty, pos, af, none⟩ :: rest) E w := by
  refine WL.run _ w (fun a ha => ?_) hd h
  obtain ⟨es, clk, h1, h2⟩ := hm
  have hf := run_findKey hk w k es.toList l h2
  simp only [execOp, ev_eval ha hx, ev_eval ha hy]
  cases hq : fnd l k 0 with
  | none =>
    obtain ⟨h3, _⟩ := fnd_none hq
    rw [hq] at hf
    simp [Instr.lookup, run_underlying ht, MapKept.run_getObj_map h1, hk.chk, hf, hz, h3]
  | some r =>
    obtain ⟨j, v⟩ := r
    obtain ⟨q, _, _, h3, _⟩ := fnd_some hq
    rw [hq] at hf
    simp [Instr.lookup, run_underlying ht, MapKept.run_getObj_map h1, hk.chk, hf, h3]
theorem Chg.setBlk (w : World) (m : Nat) (o : Obj) : Chg (· = m) w { w with heap := w.heap.setIfInBounds m o } :=
  ⟨rfl, rfl, rfl, by simp, fun k hk hm => by
    have : m ≠ k := fun e => hm e.symm
    simp [Array.getElem?_setIfInBounds_ne this]⟩
theorem setBlk_get {w : World} {m : Nat} (o : Obj) (h : m < w.heap.size) : ({ w with heap := w.heap.setIfInBounds m o } : World).heap[m]? = some o := by simp [h]
theorem run_thatStays (hk : KeyOk P T kv) (w : World) (k : K) : (Instr.keyThatStays (kv k) (kv k)).run P w = .ok (kv k) w := by
  simp [Instr.keyThatStays, hk.same]
theorem run_mapPut {v : V} (hk : KeyOk P T kv) (ht : P.underlying t = some (.map T U)) (hm : Mp kv vv w m l) (k : K) :
    ∃ w', (Instr.mapUpdate t (.map (some m)) (kv k) (vv v)).run P w = .ok () w' ∧ Mp kv vv w' m (mput l k v) ∧ Chg (· = m) w w' ∧ w'.heap.size = w.heap.size := by
  obtain ⟨es, clk, h1, h2⟩ := hm
  have hlt := (Array.getElem?_eq_some_iff.1 h1).1
  have hf := run_findKey hk w k es.toList l h2
  cases hq : fnd l k 0 with
  | none =>
    obtain ⟨_, h3, _⟩ := fnd_none hq
    rw [hq] at hf
    refine ⟨{ w with heap := w.heap.setIfInBounds m (.map (es.push ⟨kv k, vv v, clk⟩) (clk + 1)) }, ?_, ⟨_, _, setBlk_get _ hlt, ?_⟩, Chg.setBlk _ _ _, by simp⟩
    · simp [Instr.mapUpdate, run_underlying ht, MapKept.run_getObj_map h1, hk.chk, hf, MapKept.run_setObj_map _ h1]
    · rw [h3]
      simp [h2]
  | some r =>
    obtain ⟨j, u⟩ := r
    obtain ⟨q, h3, h4, _, h5, _⟩ := fnd_some hq
    rw [Nat.zero_add] at h3
    subst h3
    rw [hq] at hf
    have hlen : es.toList.length = l.length := by simpa using congrArg List.length h2
    have hjl : j < l.length := (List.getElem?_eq_some_iff.1 h4).1
    have hjs : j < es.size := by rw [← Array.length_toList, hlen]; exact hjl
    have hje : es[j]? = some es[j] := Array.getElem?_eq_getElem hjs
    have hkey : es[j].key = kv k := by
      have := congrArg (fun l : List (Value × Value) => l[j]?) h2
      simp only [List.getElem?_map, h4, Option.map_some, Array.getElem?_toList, hje] at this
      injection this with this
      injection this
    refine ⟨{ w with heap := w.heap.setIfInBounds m (.map (es.modify j fun e => { e with key := kv k, val := vv v }) clk) }, ?_, ⟨_, _, setBlk_get _ hlt, ?_⟩, Chg.setBlk _ _ _, by simp⟩
    · simp [Instr.mapUpdate, run_underlying ht, MapKept.run_getObj_map h1, hk.chk, hf, hje, hkey, run_thatStays hk, MapKept.run_setObj_map _ h1]
    · rw [h5 v]
      apply List.ext_getElem?
      intro i
      have hi := congrArg (fun l : List (Value × Value) => l[i]?) h2
      simp only [List.getElem?_map, Array.getElem?_toList] at hi
      simp only [List.getElem?_map, Array.getElem?_toList, Array.getElem?_modify, List.getElem?_set]
      by_cases e : j = i
      · subst e
        simp [hje, hjl]
      · simp [e, hi]
theorem WL.mput {v : V} (hk : KeyOk P T kv) (ht : P.underlying t = some (.map T U)) (hm : Mp kv vv w m l) (hx : ev E x = some (.map (some m))) (hy : ev E y = some (kv k)) (hv : ev E z = some (vv v))
    (h : ∀ w', w'.heap.size = w.heap.size → Mp kv vv w' m (mput l k v) → Chg (· = m) w w' → WL P ops Q N rest E w') : WL P ops Q N (⟨none, .mapUpdate t x y z, ty, pos, af, none⟩ :: rest) E w := by
  obtain ⟨w', h1, h2, h3, h4⟩ := run_mapPut (v := v) hk ht hm k
  exact WL.run0 w' (fun a ha => by simp [execOp, ev_eval ha hx, ev_eval ha hy, ev_eval ha hv, h1]) (h w' h4 h2 h3)
theorem WL.mdel {ats : Array TypeId} (hk : KeyOk P T kv) (ht : P.underlying t = some (.map T U)) (hm : Mp kv vv w m l) (hx : ev E x = some (.map (some m))) (hy : ev E y = some (kv k)) (hat : ats[0]? = some t) (hd : Nat.blt d N = true)
    (h : ∀ w', w'.heap.size = w.heap.size → Mp kv vv w' m (mdel l k) → Chg (· = m) w w' → WL P ops Q N rest ((d, .tuple #[]) :: E) w') : WL P ops Q N (⟨some d, .call ⟨.builtin .delete, #[x, y], ats⟩, ty, pos, af, none⟩ :: rest) E w := by
  obtain ⟨es, clk, h1, h2⟩ := hm
  have hlt := (Array.getElem?_eq_some_iff.1 h1).1
  have hf := run_findKey hk w k es.toList l h2
  cases hq : fnd l k 0 with
  | none =>
    obtain ⟨_, _, h3⟩ := fnd_none hq
    rw [hq] at hf
    refine WL.run _ { w with heap := w.heap.setIfInBounds m (.map es clk) } (fun a ha => ?_) hd (h _ (by simp) ⟨_, _, setBlk_get _ hlt, by rw [h3]; exact h2⟩ (Chg.setBlk _ _ _))
    simp [execOp, resolve, invoke, builtin, ev_eval ha hx, ev_eval ha hy, Builtin.delete_, hat, run_underlying ht, MapKept.run_getObj_map h1, hk.chk, hf, MapKept.run_setObj_map _ h1]
  | some r =>
    obtain ⟨j, u⟩ := r
    obtain ⟨q, h3, h4, _, _, h5⟩ := fnd_some hq
    rw [Nat.zero_add] at h3
    subst h3
    rw [hq] at hf
    refine WL.run _ { w with heap := w.heap.setIfInBounds m (.map (es.eraseIdxIfInBounds j) clk) } (fun a ha => ?_) hd (h _ (by simp) ⟨_, _, setBlk_get _ hlt, ?_⟩ (Chg.setBlk _ _ _))
    · simp [execOp, resolve, invoke, builtin, ev_eval ha hx, ev_eval ha hy, Builtin.delete_, hat, run_underlying ht, MapKept.run_getObj_map h1, hk.chk, hf, MapKept.run_setObj_map _ h1]
    · rw [h5]
      have hlen : es.toList.length = l.length := by simpa using congrArg List.length h2
      have hjl : j < l.length := (List.getElem?_eq_some_iff.1 h4).1
      have hje : j < es.size := by rw [← Array.length_toList, hlen]; exact hjl
      rw [Array.eraseIdxIfInBounds, dif_pos hje, Array.toList_eraseIdx, List.eraseIdx_eq_take_drop_succ, List.eraseIdx_eq_take_drop_succ, List.map_append, List.map_append, List.map_take, List.map_take, List.map_drop, List.map_drop, h2]
omit [DecidableEq K] in
theorem WL.makeMap (hd : Nat.blt d N = true) (h : ∀ g w', w.heap.size = g → g < w'.heap.size → Mp kv vv w' g [] → Chg Nob w w' → WL P ops Q N rest ((d, .map (some g)) :: E) w') :
    WL P ops Q N (⟨some d, .makeMap t none, ty, pos, af, none⟩ :: rest) E w :=
  WL.run _ (w.alloc (.map #[] 0)) (fun a ha => by simp [execOp, Instr.makeMap, newObj, Sem.run]) hd
    (h _ _ rfl (by simp) ⟨#[], 0, heap_alloc_new w _, rfl⟩ (Chg.alloc _ _))
end
end Go.HL
namespace Go.HL
open Go.RowKit
/-! kinds of blocks -/
def kb (w : World) (b : Nat) : Option (Option TypeId) := (w.heap[b]?).map fun o => match o with
  | .cells _ e _ => some e
  | _ => none
theorem Blk.kb {w : World} {b : Nat} {e : TypeId} {cs : List Value} (h : Blk w b e cs) : kb w b = some (some e) := by
  unfold Blk at h
  simp [Go.HL.kb, h]
theorem Mp.kb {K V : Type} {kv : K → Value} {vv : V → Value} {w : World} {m : Nat} {l : List (K × V)} (h : Mp kv vv w m l) : kb w m = some none := by
  obtain ⟨es, clk, h1, _⟩ := h
  simp [Go.HL.kb, h1]
theorem Own.kb {w : World} {e : TypeId} {sz : Nat} {ao : Option Addr} {n c : Nat} {cs : List Value} (h : Own w e sz ao n c cs) : At (fun b => kb w b = some (some e)) ao := fun a ea => by
  rcases h.2.2 with ⟨rfl, _⟩ | ⟨g, cur, fr, rfl, hg, _⟩
  · cases ea
  · injection ea with ea
    subst ea
    simp [Go.HL.kb, hg]
theorem Row.chgK {α : Type} {S M : Nat → Prop} {w w' : World} {T : TypeId} {e : Enc α} {ao : Option Addr} {c : Nat} {xs : List α} (h : Row S w T e ao c xs) (k : Chg M w w') (hd : ∀ b, b < w.heap.size → M b → kb w b ≠ some (some T)) : Row S w' T e ao c xs :=
  ⟨h.at_, h.own.chg k (fun a ea hm => hd _ (h.own.lt a ea) hm (h.own.kb a ea))⟩
theorem Row.kb {α : Type} {S : Nat → Prop} {w : World} {T : TypeId} {e : Enc α} {ao : Option Addr} {c : Nat} {xs : List α} (h : Row S w T e ao c xs) : Row (fun b => S b ∧ kb w b = some (some T)) w T e ao c xs := ⟨fun a ea => ⟨h.at_ a ea, h.own.kb a ea⟩, h.own⟩
/-! parts of a row of the call's own are written -/
theorem splice_take {α : Type} {L vs : List α} {o n : Nat} (h1 : o + vs.length ≤ n) (h2 : n ≤ L.length) : (L.take o ++ vs ++ L.drop (o + vs.length)).take n = (L.take n).take o ++ vs ++ (L.take n).drop (o + vs.length) := by
  apply List.ext_getElem?
  intro j
  simp only [List.append_assoc, List.getElem?_take, List.getElem?_append, List.length_take, List.getElem?_drop]
  rw [show min o L.length = o from by omega, show min o (min n L.length) = o from by omega]
  by_cases hj : j < n
  · simp only [hj, if_true]
    by_cases h3 : j < o
    · simp [h3, hj]
    · by_cases h4 : j - o < vs.length
      · simp [h3, h4]
      · simp [h3, h4, show o + vs.length + (j - o - vs.length) < n from by omega]
  · simp [hj, show ¬ j < o from by omega, show ¬ j - o < vs.length from by omega]
    intro h5
    exfalso
    omega
section
variable {α : Type} {e : Enc α} {S : Nat → Prop} {w : World} {T : TypeId} {g c : Nat} {xs ys : List α}
theorem Enc.all_set (e : Enc α) {xs : List α} {j : Nat} (hj : j < xs.length) (z : α) : e.all (xs.set j z) = (e.all xs).take (j * e.sz) ++ e.f z ++ (e.all xs).drop (j * e.sz + (e.f z).length) := by
  rw [List.set_eq_take_append_cons_drop, if_pos hj, Enc.all_append, e.len, Enc.all_take, show j * e.sz + e.sz = (j + 1) * e.sz from by rw [Nat.add_mul, Nat.one_mul], Enc.all_drop, List.append_assoc]
  rfl
theorem Row.splice (hr : Row S w T e (some ⟨g, 0, none⟩) c xs) {o : Nat} {vs : List Value} (ho : o + vs.length ≤ xs.length * e.sz) (hl : ys.length = xs.length) (he : (e.all xs).take o ++ vs ++ (e.all xs).drop (o + vs.length) = e.all ys) :
    Row S (w.setCells g o vs) T e (some ⟨g, 0, none⟩) c ys ∧ (∀ j, j < vs.length → (w.cell? ⟨g, o + j, none⟩).isSome = true) ∧ (∀ j, j < vs.length → w.frozen? ⟨g, o + j, none⟩ = false) := by
  obtain ⟨hat, hlen, hcap, hc | ⟨g', cur, fr, hg', hg, hfr, hmax, hsz, htk⟩⟩ := hr
  · cases hc.1
  · injection hg' with hg'
    injection hg' with hg' _ _
    subst hg'
    have hcs : xs.length * e.sz ≤ c * e.sz := Nat.mul_le_mul_right _ hcap
    have hs2 := setCells_same g T fr vs o w cur hg (by omega)
    refine ⟨⟨hat, Enc.all_len _ _, by omega, .inr ⟨g, _, fr, rfl, hs2, ?_, hmax, ?_, ?_⟩⟩, fun j hj => ?_, fun j hj => ?_⟩
    · intro j hj
      refine hfr j ?_
      simp only [List.size_toArray, List.length_append, List.length_take, List.length_drop, Array.length_toList] at hj
      omega
    · simp only [List.size_toArray, List.length_append, List.length_take, List.length_drop, Array.length_toList]
      omega
    · have hcl : cur.toList.length = cur.size := Array.length_toList
      rw [List.toList_toArray, hl, splice_take ho (by omega), htk]
      exact he
    · rw [cell_of_row w g _ cur T fr hg, Array.getElem?_eq_getElem (by omega)]
      rfl
    · have := hfr (o + j) (by omega)
      simp only [World.frozen?, hg]
      simpa using this
theorem Row.take (hr : Row S w T e (some ⟨g, 0, none⟩) c xs) (i : Nat) (hi : i ≤ xs.length) : Row S w T e (some ⟨g, 0, none⟩) c (xs.take i) := by
  obtain ⟨hat, hlen, hcap, hc | ⟨g', cur, fr, hg', hg, hfr, hmax, hsz, htk⟩⟩ := hr
  · cases hc.1
  · refine ⟨hat, Enc.all_len _ _, by simp; omega, .inr ⟨g', cur, fr, hg', hg, hfr, hmax, hsz, ?_⟩⟩
    rw [← Enc.all_take, ← htk, List.take_take, List.length_take, Nat.min_eq_left hi, Nat.min_eq_left (Nat.mul_le_mul_right _ hi)]
end
section
variable {P : Program} {ops : Array Oper} {Q : Exit → Act → World → Prop} {N : Nat} {E : Env} {w : World} {rest : List Oper}
  {d : Nat} {ty : TypeId} {pos : String} {af : Array Edge} {α : Type} {e : Enc α} {S : Nat → Prop} {t tb T : TypeId} {x y : Operand} {g o c : Nat} {xs ys : List α}
theorem Holds.dup {a : Act} (h : Holds N E a) {t : Nat} {v : Value} (hx : ev E (.tmp t) = some v) : Holds N ((t, v) :: E) a := ⟨h.size, h.defs, fun s u hu => by
  by_cases e : s = t
  · subst e
    simp at hu
    subst hu
    exact h.env _ _ hx
  · have hne : (s == t) = false := by simpa using e
    simp only [List.lookup, hne] at hu
    exact h.env s u hu⟩
/-- a bool that isn't known: both ways -/
theorem WL.caseB {l : List Oper} {t : Nat} {b : Bool} (hx : ev E (.tmp t) = some (.bool b)) (hT : b = true → WL P ops Q N l ((t, .bool true) :: E) w) (hF : b = false → WL P ops Q N l ((t, .bool false) :: E) w) : WL P ops Q N l E w := by
  cases b
  · exact fun a ha => hF rfl a (ha.dup hx)
  · exact fun a ha => hT rfl a (ha.dup hx)
theorem WL.runN {op : Op} (v : Value) (w' : World) (hrun : ∀ a, Holds N E a → (execOp a.eval ⟨none, op, ty, pos, af, none⟩).run P w = .ok (.value v) w') (h : WL P ops Q N rest E w') : WL P ops Q N (⟨none, op, ty, pos, af, none⟩ :: rest) E w := fun a ha => by
  refine wpList_plain rfl fun K hK => ?_
  unfold Oper.wp
  rw [hrun a ha]
  exact hK _ _ (h _ ha)
theorem setCells_sz (vs : List Value) : ∀ (o : Nat) (w : World), (w.setCells g o vs).heap.size = w.heap.size := by
  induction vs with
  | nil => intro o w; rfl
  | cons v r ih => intro o w; rw [World.setCells, ih]; simp
/-- several cells of a row of the call's own are written -/
theorem WL.storeE {vs : List Value} {k : Nat} (hs : ∀ w, (sizeOf t).run P w = .ok k w) (hr : Row S w T e (some ⟨g, 0, none⟩) c xs) (hx : ev E x = some (.pointer (some ⟨g, o, none⟩))) (hy : ev E y = some (.agg vs.toArray)) (hk : vs.length = k) (h1 : ∀ u ∈ vs, u.oneCell' = true)
    (ho : o + vs.length ≤ xs.length * e.sz) (hl : ys.length = xs.length) (he : (e.all xs).take o ++ vs ++ (e.all xs).drop (o + vs.length) = e.all ys)
    (h : ∀ w', w'.heap.size = w.heap.size → Row S w' T e (some ⟨g, 0, none⟩) c ys → Chg (· = g) w w' → WL P ops Q N rest E w') :
    WL P ops Q N (⟨none, .store t x y, ty, pos, af, none⟩ :: rest) E w := by
  obtain ⟨h2, h3, h4⟩ := hr.splice ho hl he
  refine WL.run0 (w.setCells g o vs) (fun a hh => ?_) (h _ (setCells_sz _ _ _) h2 (setCells_chg g vs o w))
  have hst := run_storeCells_cells (P := P) g o vs 0 w (by simpa using h3) (by simpa using h4) h1
  simp only [Nat.add_zero] at hst
  simp [execOp, ev_eval hh hx, ev_eval hh hy, Instr.storeAt, Instr.sureAddr, storeVar, hs, Value.cells, hk, hst]
/-- one cell of an element -/
theorem WL.storeF {v : Value} (hs : ∀ w, (sizeOf t).run P w = .ok 1 w) (hr : Row S w T e (some ⟨g, 0, none⟩) c xs) (hx : ev E x = some (.pointer (some ⟨g, o, none⟩))) (hy : ev E y = some v) (h1 : v.oneCell' = true)
    (ho : o + 1 ≤ xs.length * e.sz) (hl : ys.length = xs.length) (he : (e.all xs).take o ++ [v] ++ (e.all xs).drop (o + 1) = e.all ys)
    (h : ∀ w', w'.heap.size = w.heap.size → Row S w' T e (some ⟨g, 0, none⟩) c ys → Chg (· = g) w w' → WL P ops Q N rest E w') :
    WL P ops Q N (⟨none, .store t x y, ty, pos, af, none⟩ :: rest) E w := by
  obtain ⟨h2, h3, h4⟩ := hr.splice (vs := [v]) ho hl he
  refine WL.run0 (w.setCells g o [v]) (fun a hh => ?_) (h _ (setCells_sz _ _ _) h2 (setCells_chg g [v] o w))
  have hst := run_storeCells_cells (P := P) g o [v] 0 w (by simpa using h3) (by simpa using h4) (by simpa using h1)
  simp only [Nat.add_zero] at hst
  have hc1 : v.cells = #[v] := by cases v <;> simp_all [Value.oneCell', Value.cells]
  simp [execOp, ev_eval hh hx, ev_eval hh hy, Instr.storeAt, Instr.sureAddr, storeVar, hs, hc1, hst]
theorem zeroCells_list (z : Array Value) (n : Nat) : (Builtin.zeroCells z n).toList.length = n * z.size ∧ ∀ u ∈ (Builtin.zeroCells z n).toList, u ∈ z.toList := by
  refine ⟨by rw [Array.length_toList, size_zeroCells], fun u hu => ?_⟩
  simp only [Builtin.zeroCells, Array.mem_toList_iff, Array.mem_map, Array.mem_range] at hu
  obtain ⟨i, hi, rfl⟩ := hu
  have hz : 0 < z.size := by
    rcases Nat.eq_zero_or_pos z.size with h | h
    · rw [h, Nat.mul_zero] at hi; omega
    · exact h
  rw [getElem!_pos z (i % z.size) (Nat.mod_lt _ hz), Array.mem_toList_iff]
  exact Array.getElem_mem _
/-- what lies behind is cleared -/
theorem WL.clearTail {z : Value} {i m : Nat} (ht : P.underlying t = some (.slice T)) (hz : ∀ w, (zeroValue T).run P w = .ok z w) (hzs : z.cells.size = e.sz) (hz1 : ∀ u ∈ z.cells.toList, u.oneCell' = true) (hr : Row S w T e (some ⟨g, 0, none⟩) c xs) (hi : i + m = xs.length)
    (hx : ev E x = some (.slice (cutAt (some ⟨g, 0, none⟩) c i e.sz) m (c - i)))
    (h : ∀ w', w'.heap.size = w.heap.size → Row S w' T e (some ⟨g, 0, none⟩) c (xs.take i) → Chg (· = g) w w' → WL P ops Q N rest E w') :
    WL P ops Q N (⟨none, .call ⟨.builtin .clear, #[x], #[t]⟩, ty, pos, af, none⟩ :: rest) E w := by
  rcases Nat.eq_zero_or_pos m with hm | hm
  · subst hm
    have hxs : xs.take i = xs := List.take_of_length_le (by omega)
    refine WL.runN (.tuple #[]) w (fun a ha => ?_) (h w rfl (by rw [hxs]; exact hr) ((Chg.refl Nob w).mono (fun _ _ f => f.elim)))
    have hcl : (Builtin.clear_ #[t] ty #[.slice (cutAt (some ⟨g, 0, none⟩) c i e.sz) 0 (c - i)]).run P w = .ok (.tuple #[]) w := by
      cases cutAt (some ⟨g, 0, none⟩) c i e.sz <;> simp [Builtin.clear_, run_underlying ht]
    simp [execOp, resolve, invoke, builtin, ev_eval ha hx, hcl]
  · have hcap := hr.own.cap
    have hne : ¬ c = i := by omega
    have hcut : cutAt (some (⟨g, 0, none⟩ : Addr)) c i e.sz = some ⟨g, i * e.sz, none⟩ := by simp [cutAt, hne, Addr.add_lit]
    rw [hcut] at hx
    obtain ⟨hl, hu⟩ := zeroCells_list z.cells m
    obtain ⟨vs, hvs⟩ : ∃ vs, vs = (Builtin.zeroCells z.cells m).toList := ⟨_, rfl⟩
    rw [← hvs] at hl hu
    rw [hzs] at hl
    obtain ⟨hat, hlen, hcp, hc0 | ⟨g', cur, fr, hg', hg, hfr, hmax, hsz, htk⟩⟩ := hr
    · cases hc0.1
    · injection hg' with hg'
      injection hg' with hg' _ _
      subst hg'
      have e1 : i * e.sz + m * e.sz = xs.length * e.sz := by rw [← Nat.add_mul, hi]
      have hcs : xs.length * e.sz ≤ c * e.sz := Nat.mul_le_mul_right _ hcap
      have hs2 := setCells_same g T fr vs (i * e.sz) w cur hg (by omega)
      have hst := run_storeCells_cells (P := P) g (i * e.sz) vs 0 w (fun j hj => by
        rw [Nat.add_zero, cell_of_row w g _ cur T fr hg, Array.getElem?_eq_getElem (by omega)]
        rfl) (fun j hj => by
        have := hfr (i * e.sz + 0 + j) (by omega)
        simp only [World.frozen?, hg]
        simpa using this) (fun u h5 => hz1 u (hu u h5))
      simp only [Nat.add_zero] at hst
      refine WL.runN (.tuple #[]) (w.setCells g (i * e.sz) vs) (fun a ha => ?_) (h _ (setCells_sz _ _ _) ⟨hat, Enc.all_len _ _, by simp; omega, .inr ⟨g, _, fr, rfl, hs2, ?_, hmax, ?_, ?_⟩⟩ (setCells_chg g vs _ w))
      · obtain ⟨q, rfl⟩ : ∃ q, m = q + 1 := ⟨m - 1, by omega⟩
        have hcl : (Builtin.clear_ #[t] ty #[.slice (some ⟨g, i * e.sz, none⟩) (q + 1) (c - i)]).run P w = .ok (.tuple #[]) (w.setCells g (i * e.sz) vs) := by
          simp [Builtin.clear_, run_underlying ht, hz, ← hvs, hst]
        simp [execOp, resolve, invoke, builtin, ev_eval ha hx, hcl]
      · intro j hj
        refine hfr j ?_
        simp only [List.size_toArray, List.length_append, List.length_take, List.length_drop, Array.length_toList] at hj
        omega
      · simp only [List.size_toArray, List.length_append, List.length_take, List.length_drop, Array.length_toList]
        omega
      · rw [List.toList_toArray, ← Enc.all_take, ← htk, List.take_take, List.length_take, Nat.min_eq_left (show i ≤ xs.length by omega), Nat.min_eq_left (Nat.mul_le_mul_right _ (show i ≤ xs.length by omega)), List.append_assoc, List.take_append_of_le_length (by rw [List.length_take, Array.length_toList]; omega), List.take_take, Nat.min_self]
/-- the head of a row of the call's own -/
theorem WL.sliceRow {hi : Operand} {i n : Nat} {j : IntKind} (ht : P.underlying t = some (.slice T)) (hs : ∀ w, (sizeOf T).run P w = .ok e.sz w) (hx : ev E x = some (.slice (some ⟨g, 0, none⟩) n c)) (hhi : ev E hi = some (.int j (i : Int))) (hi' : i ≤ c) (hd : Nat.blt d N = true)
    (h : WL P ops Q N rest ((d, .slice (some ⟨g, 0, none⟩) i c) :: E) w) : WL P ops Q N (⟨some d, .slice t x none (some hi) none, ty, pos, af, none⟩ :: rest) E w := by
  refine WL.run _ w (fun a ha => ?_) hd h
  simp only [execOp, ev_eval ha hx, Option.map_none, Option.map_some, ev_eval ha hhi]
  have := run_sliceAt w ht hs (some ⟨g, 0, none⟩) n c 0 i .i64 j none (some (.int j (i : Int))) (.inr ⟨rfl, rfl⟩) (.inl ⟨rfl, hi'⟩) (Nat.zero_le _)
  have hc : cutAt (some (⟨g, 0, none⟩ : Addr)) c 0 e.sz = some ⟨g, 0, none⟩ := by
    unfold cutAt
    split <;> simp [Addr.add_lit]
  rw [hc] at this
  simp [this]
theorem WL.makeFun {f : FuncId} {v : Value} (hx : ev E x = some v) (hd : Nat.blt d N = true) (h : WL P ops Q N rest ((d, .func (.func f) #[] #[v]) :: E) w) :
    WL P ops Q N (⟨some d, .makeFunc (.func f) #[] #[x], ty, pos, af, none⟩ :: rest) E w :=
  WL.run _ w (fun a ha => by simp [execOp, ev_eval ha hx, Instr.makeFunc]) hd h
theorem WL.ptrNil {ao : Option Addr} (ht : P.underlying t = some (.pointer (P.pointee t))) (hx : ev E x = some (.pointer ao)) (hy : ev E y = some (.pointer none)) (hd : Nat.blt d N = true) (h : WL P ops Q N rest ((d, .bool ao.isNone) :: E) w) :
    WL P ops Q N (⟨some d, .binOp .eql t x y tb, ty, pos, af, none⟩ :: rest) E w :=
  WL.run _ w (fun a ha => by simp [execOp, ev_eval ha hx, ev_eval ha hy, eqGuard, binOp, run_equal_pointer_nil (P := P) w t ao ht]) hd h
theorem WL.ptrSome {ao : Option Addr} (ht : P.underlying t = some (.pointer (P.pointee t))) (hx : ev E x = some (.pointer ao)) (hy : ev E y = some (.pointer none)) (hd : Nat.blt d N = true) (h : WL P ops Q N rest ((d, .bool ao.isSome) :: E) w) :
    WL P ops Q N (⟨some d, .binOp .neq t x y tb, ty, pos, af, none⟩ :: rest) E w :=
  WL.run _ w (fun a ha => by
    have : (!ao.isNone) = ao.isSome := by cases ao <;> rfl
    simp [execOp, ev_eval ha hx, ev_eval ha hy, eqGuard, binOp, run_equal_pointer_nil (P := P) w t ao ht, this]) hd h
theorem WL.mdel0 {K V : Type} [DecidableEq K] {kv : K → Value} {vv : V → Value} {U : TypeId} {m : Nat} {l : List (K × V)} {k : K} {ats : Array TypeId} (hk : KeyOk P T kv) (ht : P.underlying t = some (.map T U)) (hm : Mp kv vv w m l) (hx : ev E x = some (.map (some m))) (hy : ev E y = some (kv k)) (hat : ats[0]? = some t)
    (h : ∀ w', w'.heap.size = w.heap.size → Mp kv vv w' m (Go.HL.mdel l k) → Chg (· = m) w w' → WL P ops Q N rest E w') : WL P ops Q N (⟨none, .call ⟨.builtin .delete, #[x, y], ats⟩, ty, pos, af, none⟩ :: rest) E w := by
  obtain ⟨es, clk, h1, h2⟩ := hm
  have hlt := (Array.getElem?_eq_some_iff.1 h1).1
  have hf := run_findKey hk w k es.toList l h2
  cases hq : fnd l k 0 with
  | none =>
    obtain ⟨_, _, h3⟩ := fnd_none hq
    rw [hq] at hf
    refine WL.runN (.tuple #[]) { w with heap := w.heap.setIfInBounds m (.map es clk) } (fun a ha => ?_) (h _ (by simp) ⟨_, _, setBlk_get _ hlt, by rw [h3]; exact h2⟩ (Chg.setBlk _ _ _))
    simp [execOp, resolve, invoke, builtin, ev_eval ha hx, ev_eval ha hy, Builtin.delete_, hat, run_underlying ht, MapKept.run_getObj_map h1, hk.chk, hf, MapKept.run_setObj_map _ h1]
  | some r =>
    obtain ⟨j, u⟩ := r
    obtain ⟨q, h3, h4, _, _, h5⟩ := fnd_some hq
    rw [Nat.zero_add] at h3
    subst h3
    rw [hq] at hf
    refine WL.runN (.tuple #[]) { w with heap := w.heap.setIfInBounds m (.map (es.eraseIdxIfInBounds j) clk) } (fun a ha => ?_) (h _ (by simp) ⟨_, _, setBlk_get _ hlt, ?_⟩ (Chg.setBlk _ _ _))
    · simp [execOp, resolve, invoke, builtin, ev_eval ha hx, ev_eval ha hy, Builtin.delete_, hat, run_underlying ht, MapKept.run_getObj_map h1, hk.chk, hf, MapKept.run_setObj_map _ h1]
    · rw [h5]
      have hlen : es.toList.length = l.length := by simpa using congrArg List.length h2
      have hjl : j < l.length := (List.getElem?_eq_some_iff.1 h4).1
      have hje : j < es.size := by rw [← Array.length_toList, hlen]; exact hjl
      rw [Array.eraseIdxIfInBounds, dif_pos hje, Array.toList_eraseIdx, List.eraseIdx_eq_take_drop_succ, List.eraseIdx_eq_take_drop_succ, List.map_append, List.map_append, List.map_take, List.map_take, List.map_drop, List.map_drop, h2]
end
end Go.HL
