import Derived.MapKept
import Derived.Lib.AppendZeros
import Derived.Test.YtjdbjdgobhjbkaaQParityApart4
namespace Go.HL
open Go.RowKit
/-- the length of the good ones of the first i columns; -1: there is none yet -/
def LInv (cols : List (List UInt8)) (bad : List Int) (i : Nat) (n : Int) : Prop :=
  (n = -1 ∧ ∀ j : Nat, j < i → (j : Int) ∈ bad) ∨ ∃ m : Nat, n = (m : Int) ∧ (∃ (j : Nat) (x : List UInt8), j < i ∧ cols[j]? = some x ∧ (j : Int) ∉ bad) ∧ ∀ (j : Nat) (x : List UInt8), j < i → cols[j]? = some x → (j : Int) ∉ bad → x.length = m
section
variable {cols : List (List UInt8)} {bad : List Int} {i : Nat} {n : Int} {x : List UInt8}
theorem LInv.start (cols : List (List UInt8)) (bad : List Int) : LInv cols bad 0 (-1) := .inl ⟨rfl, fun j h => absurd h (Nat.not_lt_zero j)⟩
theorem LInv.skip (h : LInv cols bad i n) (hb : (i : Int) ∈ bad) : LInv cols bad (i + 1) n := by
  rcases h with ⟨h1, h2⟩ | ⟨m, h1, ⟨j, x, hj, hx, hjb⟩, h2⟩
  · refine .inl ⟨h1, fun j hj => ?_⟩
    rcases Nat.lt_or_ge j i with h3 | h3
    · exact h2 j h3
    · rw [show j = i from by omega]; exact hb
  · refine .inr ⟨m, h1, ⟨j, x, by omega, hx, hjb⟩, fun j x hj hx hjb => ?_⟩
    rcases Nat.lt_or_ge j i with h3 | h3
    · exact h2 j x h3 hx hjb
    · rw [show j = i from by omega] at hjb; exact absurd hb hjb
theorem LInv.next (h : LInv cols bad i n) (hx : cols[i]? = some x) (hb : (i : Int) ∉ bad) (hn : ¬ (0 ≤ n ∧ (x.length : Int) ≠ n)) : LInv cols bad (i + 1) (x.length : Int) := by
  refine .inr ⟨x.length, rfl, ⟨i, x, by omega, hx, hb⟩, fun j y hj hy hjb => ?_⟩
  rcases Nat.lt_or_ge j i with h3 | h3
  · rcases h with ⟨h1, h2⟩ | ⟨m, h1, _, h2⟩
    · exact absurd (h2 j h3) hjb
    · have := h2 j y h3 hy hjb
      omega
  · have e : j = i := by omega
    rw [e, hx] at hy
    injection hy with hy
    rw [hy]
theorem LInv.uneven (h : LInv cols bad i n) (hx : cols[i]? = some x) (hb : (i : Int) ∉ bad) (hn : 0 ≤ n ∧ (x.length : Int) ≠ n) : lenB cols bad = -1 := by
  refine lenB_no ?_
  rintro ⟨m', _, _, h3⟩
  rcases h with ⟨h1, h2⟩ | ⟨m, h1, ⟨j, y, hj, hy, hjb⟩, h2⟩
  · omega
  · have a := h3 i x hx hb
    have b := h3 j y hy hjb
    have c := h2 j y hj hy hjb
    omega
theorem LInv.done (h : LInv cols bad i n) (hi : i = cols.length) : lenB cols bad = if n < 1 ∨ n > 4096 then -1 else n := by
  subst hi
  rcases h with ⟨h1, h2⟩ | ⟨m, h1, ⟨j, y, hj, hy, hjb⟩, h2⟩
  · rw [if_pos (by omega)]
    refine lenB_no ?_
    rintro ⟨m', _, ⟨j, x, hx, hjb⟩, _⟩
    exact hjb (h2 j (List.getElem?_eq_some_iff.1 hx).1)
  · by_cases hm : n < 1 ∨ n > 4096
    · rw [if_pos hm]
      refine lenB_no ?_
      rintro ⟨m', h5, _, h6⟩
      have a := h6 j y hy hjb
      have b := h2 j y hj hy hjb
      omega
    · rw [if_neg hm, h1]
      exact lenB_of ⟨by omega, ⟨j, y, hy, hjb⟩, fun j' x hx hb => h2 j' x (List.getElem?_eq_some_iff.1 hx).1 hx hb⟩
end
def OkTo (n : Nat) (bad : List Int) (i : Nat) : Prop := ∀ (j : Nat) (b : Int), j < i → bad[j]? = some b → (0 ≤ b ∧ b < n) ∧ ∀ c, 0 < j → bad[j - 1]? = some c → c < b
theorem OkTo.start (n : Nat) (bad : List Int) : OkTo n bad 0 := fun j _ h => absurd h (Nat.not_lt_zero j)
theorem OkTo.next {n : Nat} {bad : List Int} {i : Nat} {b : Int} (h : OkTo n bad i) (hb : bad[i]? = some b) (h1 : 0 ≤ b ∧ b < n) (h2 : ∀ c, 0 < i → bad[i - 1]? = some c → c < b) : OkTo n bad (i + 1) := fun j b' hj hb' => by
  rcases Nat.lt_or_ge j i with h3 | h3
  · exact h j b' h3 hb'
  · have e : j = i := by omega
    subst e
    rw [hb] at hb'
    injection hb' with hb'
    rw [← hb']
    exact ⟨h1, h2⟩
theorem OkTo.done {n : Nat} {bad : List Int} {i : Nat} (h : OkTo n bad i) (hi : i = bad.length) : OkBad n bad := fun j b hb => h j b (by rw [hi]; exact (List.getElem?_eq_some_iff.1 hb).1) hb
theorem OkBad.no {n : Nat} {bad : List Int} {i : Nat} {b : Int} (hb : bad[i]? = some b) (h : ¬ (0 ≤ b ∧ b < n)) : ¬ OkBad n bad := fun k => h (k i b hb).1
theorem OkBad.no2 {n : Nat} {bad : List Int} {i : Nat} {b c : Int} (hb : bad[i]? = some b) (hc : bad[i - 1]? = some c) (hi : 0 < i) (h : b ≤ c) : ¬ OkBad n bad := fun k => by
  have := (k i b hb).2 c hi hc
  omega
theorem errB_shape {cols : List (List UInt8)} {bad : List Int} (h : ¬ (4 ≤ cols.length ∧ cols.length ≤ 16)) : errB cols bad = 1 := by rw [errB, if_neg (fun k => h ⟨k.1, k.2.1⟩)]
theorem errB_bad {cols : List (List UInt8)} {bad : List Int} (h : ¬ OkBad cols.length bad) : errB cols bad = 1 := by rw [errB, if_neg (fun k => h k.2.2.1)]
theorem errB_len {cols : List (List UInt8)} {bad : List Int} (h : lenB cols bad < 0) : errB cols bad = 1 := by rw [errB, if_neg (fun k => by have := k.2.2.2; omega)]
theorem errB_ok {cols : List (List UInt8)} {bad : List Int} (h1 : 4 ≤ cols.length ∧ cols.length ≤ 16) (h2 : OkBad cols.length bad) (h3 : ¬ lenB cols bad < 0) : errB cols bad = if bad.length ≤ 3 then 0 else 4 := by rw [errB, if_pos ⟨h1.1, h1.2, h2, by omega⟩]
end Go.HL
namespace Go.Proofs.Ytjdbjdgobhjbkaa
open Go.RowKit Go.HL

set_option maxHeartbeats 1000000 in
theorem length_calls2 {S S2 : Nat → Prop} {w : World} {ao ab : Option Addr} {c cb : Nat} {rs : List Rw} {bad : List Int} (hc : RS S w ao c rs) (hb : RSl S2 w ei ab cb bad) (hl : rs.length * 24 ≤ 140737488351232) (hbl : bad.length ≤ 140737488351232) :
    Calls Try.prog 43 [.slice ao rs.length c, .slice ab bad.length cb].toArray w (Ret fun v w' => v = vi (lenB (xss rs) bad) ∧ Chg Nob w w') := by
  replace hc := hc.old
  replace hb := hb.old
  have hw := Chg.refl Nob w
  have hxl := xss_len rs
  refine Calls.of_WC Try.func43 rfl Try.ntmps43 (by simp) ?_
  refine WC.seq (WC.region (WL.assign rfl rfl (WL.nil (WX.then_normal (WC.seq (WC.region (WL.assign rfl rfl (?_))))))))
  refine WL.nil (WX.then_normal (WC.seq (WC.seq (WC.region (WL.move rfl rfl (WL.len Try.underlying22 rfl rfl (WL.move rfl rfl (?_))))))))
  refine WL.nil (WX.then_normal (WC.block (?_)))
  refine WC.loop (σ := Nat × Int) (fun q => [(1, .slice ab bad.length cb), (5, vi q.2), (8, .slice ao rs.length c), (9, vi rs.length), (10, vi q.1)])
    (fun q w' => q.1 ≤ rs.length ∧ LInv (xss rs) bad q.1 q.2 ∧ RS (· < w.heap.size) w' ao c rs ∧ RSl (· < w.heap.size) w' ei ab cb bad ∧ Chg Nob w w') (fun q => rs.length - q.1) (0, -1) ⟨rfl, rfl, rfl, rfl, rfl, trivial⟩ ⟨Nat.zero_le _, LInv.start _ _, hc, hb, hw⟩ ?_
  clear hc hb hw
  rintro ⟨i, n⟩ w2 ⟨hi, hI, hc, hb, hw⟩
  simp only at hi hI
  dsimp only
  refine WC.seq (WC.region (?_))
  refine WL.lss? rfl rfl rfl (fun h11 => ?_) (fun h11 => ?_)
  ·
    refine WL.nil (WX.then_normal (WC.seq (WC.cond_true rfl (WC.skip (WX.then_normal (WC.seq (WC.block (?_))))))))
    refine WC.seq (WC.region (WL.move rfl rfl (?_)))
    obtain ⟨r, hr⟩ : ∃ r, rs[i]? = some r := ⟨_, List.getElem?_eq_getElem (by omega)⟩
    have hrx := xss_at hr
    refine WL.indexT Try.underlying22 Try.sizeOf23 hc.outer rfl rfl ⟨hr, rfl⟩ rfl ?_
    intro b_1 o_1 hc_1
    refine WL.load Try.isAgg23 rfl (hc_1 0 _ rfl) rfl (WL.assign rfl rfl (WL.assign rfl rfl (WL.nil (WX.then_normal (WC.block (WC.seq (WC.region (?_))))))))
    refine WL.move rfl rfl (WL.move rfl rfl (?_))
    refine WL.call eg_39 rfl rfl (contains_calls hb hbl _) ?_
    rintro v w3 ⟨rfl, k⟩
    have zs_k := k.size
    replace hc := hc.pure k
    replace hb := hb.pure k
    replace hw := hw.pure k
    by_cases hbi : (i : Int) ∈ bad
    ·
      rw [decide_eq_true hbi]
      refine WL.assign rfl rfl (WL.nil (WX.then_normal (WC.cond_true rfl (WC.skip (WX.block_normal (WX.block_normal (WX.then_normal (?_))))))))
      refine WC.region (WL.add64 rfl rfl (by first | omega | (constructor <;> omega)) rfl (WL.move rfl rfl (WL.nil (?_))))
      first
        | exact WX.loop_next (i + 1, n) ⟨rfl, rfl, rfl, rfl, rfl, trivial⟩ ⟨by show i + 1 ≤ _; omega, hI.skip hbi, hc, hb, hw⟩ (by show rs.length - (i + 1) < rs.length - i; omega)
        | exact WX.loop_next (i + 1, (r.xs.length : Int)) ⟨rfl, rfl, rfl, rfl, rfl, trivial⟩ ⟨by show i + 1 ≤ _; omega, hI.next hrx hbi (by omega), hc, hb, hw⟩ (by show rs.length - (i + 1) < rs.length - i; omega)
    ·
      rw [decide_eq_false hbi]
      refine WL.assign rfl rfl (WL.nil (WX.then_normal (WC.cond_false rfl (WC.seq (WC.region (WL.move rfl rfl (?_)))))))
      refine WL.geq? rfl rfl rfl (fun h23 => ?_) (fun h23 => ?_)
      ·
        refine WL.move rfl rfl (WL.want rfl rfl rfl (WL.move rfl rfl (WL.want rfl rfl rfl (WL.len Try.underlying23 rfl rfl (WL.want rfl rfl rfl (WL.move rfl rfl (WL.want rfl rfl rfl (?_))))))))
        refine WL.neq? rfl rfl rfl (fun h28 => ?_) (fun h28 => ?_)
        ·
          refine WL.pickT rfl rfl rfl (WL.assign rfl rfl (WL.nil (WX.then_normal (WC.cond_true rfl (WC.seq (WC.region (WL.assign rfl rfl (?_))))))))
          refine WL.nil (WX.then_normal (WC.ret (WX.block_ret (WX.block_ret (WX.then_ret (WX.then_ret (WX.block_ret (?_))))))))
          refine WX.then_ret (?_)
          refine WX.ret1 (.inl rfl) Try.results43 rfl ?_
          first
            | (refine ⟨_, rfl, ?_, hw⟩
               rw [hI.uneven hrx hbi ⟨by omega, by omega⟩])
            | (refine ⟨_, rfl, ?_, hw⟩
               rw [hI.done (by omega)]
               first
                 | (rw [if_neg (by omega)]; done)
                 | (rw [if_pos (by omega)]; done))
        ·
          refine WL.pickT rfl rfl rfl (WL.assign rfl rfl (WL.nil (WX.then_normal (WC.cond_false rfl (WC.region (WL.move rfl rfl (WL.len Try.underlying23 rfl rfl (?_))))))))
          refine WL.assign rfl rfl (WL.nil (WX.block_normal (WX.block_normal (WX.then_normal (WC.region (WL.add64 rfl rfl (by first | omega | (constructor <;> omega)) rfl (WL.move rfl rfl (?_))))))))
          refine WL.nil (?_)
          first
            | exact WX.loop_next (i + 1, n) ⟨rfl, rfl, rfl, rfl, rfl, trivial⟩ ⟨by show i + 1 ≤ _; omega, hI.skip hbi, hc, hb, hw⟩ (by show rs.length - (i + 1) < rs.length - i; omega)
            | exact WX.loop_next (i + 1, (r.xs.length : Int)) ⟨rfl, rfl, rfl, rfl, rfl, trivial⟩ ⟨by show i + 1 ≤ _; omega, hI.next hrx hbi (by omega), hc, hb, hw⟩ (by show rs.length - (i + 1) < rs.length - i; omega)
      ·
        refine WL.move rfl rfl (WL.pass rfl rfl rfl rfl (WL.pass rfl rfl rfl rfl (WL.pass rfl rfl rfl rfl (WL.pass rfl rfl rfl rfl (WL.pickF rfl rfl rfl (WL.assign rfl rfl (WL.nil (?_))))))))
        refine WX.then_normal (WC.cond_false rfl (WC.region (WL.move rfl rfl (WL.len Try.underlying23 rfl rfl (WL.assign rfl rfl (WL.nil (WX.block_normal (?_))))))))
        refine WX.block_normal (WX.then_normal (WC.region (WL.add64 rfl rfl (by first | omega | (constructor <;> omega)) rfl (WL.move rfl rfl (WL.nil (?_))))))
        first
          | exact WX.loop_next (i + 1, n) ⟨rfl, rfl, rfl, rfl, rfl, trivial⟩ ⟨by show i + 1 ≤ _; omega, hI.skip hbi, hc, hb, hw⟩ (by show rs.length - (i + 1) < rs.length - i; omega)
          | exact WX.loop_next (i + 1, (r.xs.length : Int)) ⟨rfl, rfl, rfl, rfl, rfl, trivial⟩ ⟨by show i + 1 ≤ _; omega, hI.next hrx hbi (by omega), hc, hb, hw⟩ (by show rs.length - (i + 1) < rs.length - i; omega)
  ·
    refine WL.nil (WX.then_normal (WC.seq (WC.cond_false rfl (WC.exit (WX.then_exit (WX.then_exit (WX.block_here (?_))))))))
    refine WX.then_normal (WC.seq (WC.seq (WC.region (WL.move rfl rfl (?_)))))
    refine WL.lss? rfl rfl rfl (fun h32 => ?_) (fun h32 => ?_)
    ·
      refine WL.move rfl rfl (WL.pass rfl rfl rfl rfl (WL.pass rfl rfl rfl rfl (WL.pickT rfl rfl rfl (WL.nil (WX.then_normal (WC.cond_true rfl (WC.seq (?_))))))))
      refine WC.region (WL.assign rfl rfl (WL.nil (WX.then_normal (WC.ret (WX.then_ret (?_))))))
      refine WX.ret1 (.inl rfl) Try.results43 rfl ?_
      first
        | (refine ⟨_, rfl, ?_, hw⟩
           rw [hI.uneven hrx hbi ⟨by omega, by omega⟩])
        | (refine ⟨_, rfl, ?_, hw⟩
           rw [hI.done (by omega)]
           first
             | (rw [if_neg (by omega)]; done)
             | (rw [if_pos (by omega)]; done))
    ·
      refine WL.move rfl rfl (WL.want rfl rfl rfl (WL.move rfl rfl (WL.want rfl rfl rfl (?_))))
      refine WL.gtr? rfl rfl rfl (fun h35 => ?_) (fun h35 => ?_)
      ·
        refine WL.pickF rfl rfl rfl (WL.nil (WX.then_normal (WC.cond_true rfl (WC.seq (WC.region (WL.assign rfl rfl (WL.nil (?_))))))))
        refine WX.then_normal (WC.ret (WX.then_ret (?_)))
        refine WX.ret1 (.inl rfl) Try.results43 rfl ?_
        first
          | (refine ⟨_, rfl, ?_, hw⟩
             rw [hI.uneven hrx hbi ⟨by omega, by omega⟩])
          | (refine ⟨_, rfl, ?_, hw⟩
             rw [hI.done (by omega)]
             first
               | (rw [if_neg (by omega)]; done)
               | (rw [if_pos (by omega)]; done))
      ·
        refine WL.pickF rfl rfl rfl (WL.nil (WX.then_normal (WC.cond_false rfl (WC.skip (WX.then_normal (WC.seq (WC.region (?_))))))))
        refine WL.move rfl rfl (WL.assign rfl rfl (WL.nil (WX.then_normal (WC.ret (?_)))))
        refine WX.ret1 (.inl rfl) Try.results43 rfl ?_
        first
          | (refine ⟨_, rfl, ?_, hw⟩
             rw [hI.uneven hrx hbi ⟨by omega, by omega⟩])
          | (refine ⟨_, rfl, ?_, hw⟩
             rw [hI.done (by omega)]
             first
               | (rw [if_neg (by omega)]; done)
               | (rw [if_pos (by omega)]; done))
set_option maxHeartbeats 1000000 in
theorem right_calls {S S2 : Nat → Prop} {w : World} {ao ab : Option Addr} {c cb : Nat} {rs : List Rw} {bad : List Int} (hc : RS S w ao c rs) (hb : RSl S2 w ei ab cb bad) (hl : rs.length * 24 ≤ 140737488351232) (hbl : bad.length ≤ 140737488351232) :
    Calls Try.prog 38 [.slice ao rs.length c, .slice ab bad.length cb].toArray w (Ret fun v w' => v = .tuple #[vi (if errB (xss rs) bad = 0 then lenB (xss rs) bad else 0), vi (errB (xss rs) bad)] ∧ Chg Nob w w') := by
  replace hc := hc.old
  replace hb := hb.old
  have hw := Chg.refl Nob w
  have hxl := xss_len rs
  refine Calls.of_WC Try.func38 rfl Try.ntmps38 (by simp) ?_
  refine WC.seq (WC.region (WL.assign rfl rfl (WL.assign rfl rfl (WL.nil (WX.then_normal (WC.seq (WC.seq (?_))))))))
  refine WC.region (WL.move rfl rfl (WL.len Try.underlying22 rfl rfl (?_)))
  refine WL.lss? rfl rfl rfl (fun h11 => ?_) (fun h11 => ?_)
  ·
    refine WL.move rfl rfl (WL.pass rfl rfl rfl rfl (WL.pass rfl rfl rfl rfl (WL.pass rfl rfl rfl rfl (WL.pickT rfl rfl rfl (WL.nil (WX.then_normal (WC.cond_true rfl (?_))))))))
    refine WC.seq (WC.region (WL.assign rfl rfl (WL.assign rfl rfl (WL.nil (WX.then_normal (WC.ret (WX.then_ret (?_))))))))
    refine WX.ret2 (.inl rfl) Try.results38 rfl rfl ?_
    first
      | (refine ⟨_, rfl, ?_, hw⟩
         rw [errB_shape (by omega)]
         rfl)
      | (refine ⟨_, rfl, ?_, hw⟩
         rw [errB_bad (by rw [hxl]; exact OkBad.no hbi (by omega))]
         rfl)
      | (refine ⟨_, rfl, ?_, hw⟩
         rw [errB_bad (by rw [hxl]; exact OkBad.no2 hbi hd (by omega) (by omega))]
         rfl)
      | (refine ⟨_, rfl, ?_, hw⟩
         rw [errB_len (by omega)]
         rfl)
      | (refine ⟨_, rfl, ?_, hw⟩
         rw [errB_ok (by omega) hok (by omega), if_neg (show ¬ bad.length ≤ 3 by omega)]
         rfl)
      | (refine ⟨_, rfl, ?_, hw⟩
         rw [errB_ok (by omega) hok (by omega), if_pos (show bad.length ≤ 3 by omega)]
         rfl)
  ·
    refine WL.move rfl rfl (WL.want rfl rfl rfl (WL.move rfl rfl (WL.want rfl rfl rfl (WL.len Try.underlying22 rfl rfl (WL.want rfl rfl rfl (?_))))))
    refine WL.gtr? rfl rfl rfl (fun h15 => ?_) (fun h15 => ?_)
    ·
      refine WL.pickF rfl rfl rfl (WL.nil (WX.then_normal (WC.cond_true rfl (WC.seq (WC.region (WL.assign rfl rfl (WL.assign rfl rfl (?_))))))))
      refine WL.nil (WX.then_normal (WC.ret (WX.then_ret (?_))))
      refine WX.ret2 (.inl rfl) Try.results38 rfl rfl ?_
      first
        | (refine ⟨_, rfl, ?_, hw⟩
           rw [errB_shape (by omega)]
           rfl)
        | (refine ⟨_, rfl, ?_, hw⟩
           rw [errB_bad (by rw [hxl]; exact OkBad.no hbi (by omega))]
           rfl)
        | (refine ⟨_, rfl, ?_, hw⟩
           rw [errB_bad (by rw [hxl]; exact OkBad.no2 hbi hd (by omega) (by omega))]
           rfl)
        | (refine ⟨_, rfl, ?_, hw⟩
           rw [errB_len (by omega)]
           rfl)
        | (refine ⟨_, rfl, ?_, hw⟩
           rw [errB_ok (by omega) hok (by omega), if_neg (show ¬ bad.length ≤ 3 by omega)]
           rfl)
        | (refine ⟨_, rfl, ?_, hw⟩
           rw [errB_ok (by omega) hok (by omega), if_pos (show bad.length ≤ 3 by omega)]
           rfl)
    ·
      refine WL.pickF rfl rfl rfl (WL.nil (WX.then_normal (WC.cond_false rfl (WC.skip (WX.then_normal (WC.seq (WC.seq (?_))))))))
      refine WC.region (WL.move rfl rfl (WL.len Try.underlying33 rfl rfl (WL.move rfl rfl (WL.nil (WX.then_normal (WC.block (?_)))))))
      refine WC.loop (σ := Nat) (fun i => [(0, .slice ao rs.length c), (1, .slice ab bad.length cb), (17, .slice ab bad.length cb), (18, vi bad.length), (19, vi i)])
        (fun i w' => i ≤ bad.length ∧ OkTo rs.length bad i ∧ RS (· < w.heap.size) w' ao c rs ∧ RSl (· < w.heap.size) w' ei ab cb bad ∧ Chg Nob w w') (fun i => bad.length - i) 0 ⟨rfl, rfl, rfl, rfl, rfl, trivial⟩ ⟨Nat.zero_le _, OkTo.start _ _, hc, hb, hw⟩ ?_
      clear hc hb hw
      rintro i w2 ⟨hi, hI, hc, hb, hw⟩
      refine WC.seq (WC.region (?_))
      refine WL.lss? rfl rfl rfl (fun h20 => ?_) (fun h20 => ?_)
      ·
        refine WL.nil (WX.then_normal (WC.seq (WC.cond_true rfl (WC.skip (WX.then_normal (WC.seq (WC.block (?_))))))))
        refine WC.seq (WC.region (WL.move rfl rfl (?_)))
        obtain ⟨b, hbi⟩ : ∃ b, bad[i]? = some b := ⟨_, List.getElem?_eq_getElem (by omega)⟩
        refine WL.indexT Try.underlying33 Try.sizeOf3 hb rfl rfl ⟨hbi, rfl⟩ rfl ?_
        intro b_1 o_1 hc_1
        refine WL.load Try.isAgg3 rfl (hc_1 0 _ rfl) rfl (WL.assign rfl rfl (WL.assign rfl rfl (WL.nil (WX.then_normal (WC.seq (WC.region (WL.move rfl rfl (?_))))))))
        refine WL.lss? rfl rfl rfl (fun h25 => ?_) (fun h25 => ?_)
        ·
          refine WL.move rfl rfl (WL.pass rfl rfl rfl rfl (WL.pass rfl rfl rfl rfl (WL.pass rfl rfl rfl rfl (WL.pass rfl rfl rfl rfl (WL.pickT rfl rfl rfl (WL.move rfl rfl (WL.pass rfl rfl rfl rfl (?_))))))))
          refine WL.pass rfl rfl rfl rfl (WL.pass rfl rfl rfl rfl (WL.passU rfl rfl rfl (WL.passU rfl rfl rfl (WL.passU rfl rfl rfl (WL.passU rfl rfl rfl (WL.passU rfl rfl rfl (WL.passU rfl rfl rfl (?_))))))))
          refine WL.passU rfl rfl rfl (WL.pass rfl rfl rfl rfl (WL.pickT rfl rfl rfl (WL.nil (WX.then_normal (WC.cond_true rfl (WC.seq (WC.region (?_))))))))
          refine WL.assign rfl rfl (WL.assign rfl rfl (WL.nil (WX.then_normal (WC.ret (WX.block_ret (WX.then_ret (WX.then_ret (?_))))))))
          refine WX.block_ret (WX.then_ret (?_))
          refine WX.ret2 (.inl rfl) Try.results38 rfl rfl ?_
          first
            | (refine ⟨_, rfl, ?_, hw⟩
               rw [errB_shape (by omega)]
               rfl)
            | (refine ⟨_, rfl, ?_, hw⟩
               rw [errB_bad (by rw [hxl]; exact OkBad.no hbi (by omega))]
               rfl)
            | (refine ⟨_, rfl, ?_, hw⟩
               rw [errB_bad (by rw [hxl]; exact OkBad.no2 hbi hd (by omega) (by omega))]
               rfl)
            | (refine ⟨_, rfl, ?_, hw⟩
               rw [errB_len (by omega)]
               rfl)
            | (refine ⟨_, rfl, ?_, hw⟩
               rw [errB_ok (by omega) hok (by omega), if_neg (show ¬ bad.length ≤ 3 by omega)]
               rfl)
            | (refine ⟨_, rfl, ?_, hw⟩
               rw [errB_ok (by omega) hok (by omega), if_pos (show bad.length ≤ 3 by omega)]
               rfl)
        ·
          refine WL.move rfl rfl (WL.want rfl rfl rfl (WL.move rfl rfl (WL.want rfl rfl rfl (WL.move rfl rfl (WL.want rfl rfl rfl (WL.len Try.underlying22 rfl rfl (WL.want rfl rfl rfl (?_))))))))
          refine WL.geq? rfl rfl rfl (fun h30 => ?_) (fun h30 => ?_)
          ·
            refine WL.pickF rfl rfl rfl (WL.move rfl rfl (WL.pass rfl rfl rfl rfl (WL.pass rfl rfl rfl rfl (WL.pass rfl rfl rfl rfl (WL.passU rfl rfl rfl (WL.passU rfl rfl rfl (WL.passU rfl rfl rfl (?_))))))))
            refine WL.passU rfl rfl rfl (WL.passU rfl rfl rfl (WL.passU rfl rfl rfl (WL.passU rfl rfl rfl (WL.pass rfl rfl rfl rfl (WL.pickT rfl rfl rfl (WL.nil (WX.then_normal (?_))))))))
            refine WC.cond_true rfl (WC.seq (WC.region (WL.assign rfl rfl (WL.assign rfl rfl (WL.nil (WX.then_normal (WC.ret (?_))))))))
            refine WX.block_ret (WX.then_ret (WX.then_ret (WX.block_ret (WX.then_ret (?_)))))
            refine WX.ret2 (.inl rfl) Try.results38 rfl rfl ?_
            first
              | (refine ⟨_, rfl, ?_, hw⟩
                 rw [errB_shape (by omega)]
                 rfl)
              | (refine ⟨_, rfl, ?_, hw⟩
                 rw [errB_bad (by rw [hxl]; exact OkBad.no hbi (by omega))]
                 rfl)
              | (refine ⟨_, rfl, ?_, hw⟩
                 rw [errB_bad (by rw [hxl]; exact OkBad.no2 hbi hd (by omega) (by omega))]
                 rfl)
              | (refine ⟨_, rfl, ?_, hw⟩
                 rw [errB_len (by omega)]
                 rfl)
              | (refine ⟨_, rfl, ?_, hw⟩
                 rw [errB_ok (by omega) hok (by omega), if_neg (show ¬ bad.length ≤ 3 by omega)]
                 rfl)
              | (refine ⟨_, rfl, ?_, hw⟩
                 rw [errB_ok (by omega) hok (by omega), if_pos (show bad.length ≤ 3 by omega)]
                 rfl)
          ·
            refine WL.pickF rfl rfl rfl (WL.move rfl rfl (WL.want rfl rfl rfl (WL.move rfl rfl (WL.want rfl rfl rfl (?_)))))
            refine WL.gtr? rfl rfl rfl (fun h34 => ?_) (fun h34 => ?_)
            ·
              refine WL.want rfl rfl rfl (WL.move rfl rfl (WL.want rfl rfl rfl (WL.move rfl rfl (WL.want rfl rfl rfl (WL.move rfl rfl (WL.want rfl rfl rfl (WL.move rfl rfl (?_))))))))
              refine WL.want rfl rfl rfl (?_)
              obtain ⟨d, hd⟩ : ∃ d, bad[i - 1]? = some d := ⟨_, List.getElem?_eq_getElem (by omega)⟩
              refine WL.sub64 rfl rfl (by constructor <;> omega) rfl ?_
              rw [show ((i : Int) - 1) = ((i - 1 : Nat) : Int) from by omega]
              refine WL.want rfl rfl rfl (?_)
              refine WL.indexT Try.underlying33 Try.sizeOf3 hb rfl rfl ⟨hd, rfl⟩ rfl ?_
              intro b_2 o_2 hc_2
              refine WL.want rfl rfl rfl (WL.load Try.isAgg3 rfl (hc_2 0 _ rfl) rfl (WL.want rfl rfl rfl (?_)))
              refine WL.leq? rfl rfl rfl (fun h42 => ?_) (fun h42 => ?_)
              ·
                refine WL.want rfl rfl rfl (WL.pickT rfl rfl rfl (WL.pickF rfl rfl rfl (WL.nil (WX.then_normal (WC.cond_true rfl (WC.seq (WC.region (?_))))))))
                refine WL.assign rfl rfl (WL.assign rfl rfl (WL.nil (WX.then_normal (WC.ret (WX.block_ret (WX.then_ret (WX.then_ret (?_))))))))
                refine WX.block_ret (WX.then_ret (?_))
                refine WX.ret2 (.inl rfl) Try.results38 rfl rfl ?_
                first
                  | (refine ⟨_, rfl, ?_, hw⟩
                     rw [errB_shape (by omega)]
                     rfl)
                  | (refine ⟨_, rfl, ?_, hw⟩
                     rw [errB_bad (by rw [hxl]; exact OkBad.no hbi (by omega))]
                     rfl)
                  | (refine ⟨_, rfl, ?_, hw⟩
                     rw [errB_bad (by rw [hxl]; exact OkBad.no2 hbi hd (by omega) (by omega))]
                     rfl)
                  | (refine ⟨_, rfl, ?_, hw⟩
                     rw [errB_len (by omega)]
                     rfl)
                  | (refine ⟨_, rfl, ?_, hw⟩
                     rw [errB_ok (by omega) hok (by omega), if_neg (show ¬ bad.length ≤ 3 by omega)]
                     rfl)
                  | (refine ⟨_, rfl, ?_, hw⟩
                     rw [errB_ok (by omega) hok (by omega), if_pos (show bad.length ≤ 3 by omega)]
                     rfl)
              ·
                refine WL.want rfl rfl rfl (WL.pickT rfl rfl rfl (WL.pickF rfl rfl rfl (WL.nil (WX.then_normal (WC.cond_false rfl (WC.skip (WX.block_normal (?_))))))))
                refine WX.then_normal (WC.region (WL.add64 rfl rfl (by first | omega | (constructor <;> omega)) rfl (WL.move rfl rfl (WL.nil (?_)))))
                exact WX.loop_next (i + 1) ⟨rfl, rfl, rfl, rfl, rfl, trivial⟩ ⟨by omega, hI.next hbi ⟨by omega, by omega⟩ (fun c' h1 h2 => by first | (rw [hd] at h2; injection h2; omega) | omega), hc, hb, hw⟩ (by show bad.length - (i + 1) < bad.length - i; omega)
            ·
              refine WL.want rfl rfl rfl (WL.move rfl rfl (WL.pass rfl rfl rfl rfl (WL.pass rfl rfl rfl rfl (WL.pass rfl rfl rfl rfl (WL.pass rfl rfl rfl rfl (WL.pass rfl rfl rfl rfl (WL.pass rfl rfl rfl rfl (?_))))))))
              refine WL.pass rfl rfl rfl rfl (WL.want rfl rfl rfl (WL.pickF rfl rfl rfl (WL.pickF rfl rfl rfl (WL.nil (WX.then_normal (WC.cond_false rfl (WC.skip (?_))))))))
              refine WX.block_normal (WX.then_normal (WC.region (WL.add64 rfl rfl (by first | omega | (constructor <;> omega)) rfl (WL.move rfl rfl (WL.nil (?_))))))
              exact WX.loop_next (i + 1) ⟨rfl, rfl, rfl, rfl, rfl, trivial⟩ ⟨by omega, hI.next hbi ⟨by omega, by omega⟩ (fun c' h1 h2 => by first | (rw [hd] at h2; injection h2; omega) | omega), hc, hb, hw⟩ (by show bad.length - (i + 1) < bad.length - i; omega)
      ·
        refine WL.nil (WX.then_normal (WC.seq (WC.cond_false rfl (WC.exit (WX.then_exit (WX.then_exit (WX.block_here (?_))))))))
        refine WX.then_normal (WC.seq (WC.region (WL.move rfl rfl (WL.move rfl rfl (?_)))))
        have hok : OkBad (xss rs).length bad := by rw [hxl]; exact hI.done (by omega)
        refine WL.call eg_43 rfl rfl (length_calls2 hc hb hl hbl) ?_
        rintro v w1 ⟨rfl, k⟩
        have zs_k := k.size
        replace hc := hc.pure k
        replace hb := hb.pure k
        replace hw := hw.pure k
        refine WL.assign rfl rfl (WL.nil (WX.then_normal (WC.seq (WC.block (WC.seq (WC.region (WL.move rfl rfl (?_))))))))
        refine WL.lss? rfl rfl rfl (fun h51 => ?_) (fun h51 => ?_)
        ·
          refine WL.assign rfl rfl (WL.nil (WX.then_normal (WC.cond_true rfl (WC.seq (WC.region (WL.assign rfl rfl (WL.assign rfl rfl (?_))))))))
          refine WL.nil (WX.then_normal (WC.ret (WX.block_ret (WX.then_ret (?_)))))
          refine WX.ret2 (.inl rfl) Try.results38 rfl rfl ?_
          first
            | (refine ⟨_, rfl, ?_, hw⟩
               rw [errB_shape (by omega)]
               rfl)
            | (refine ⟨_, rfl, ?_, hw⟩
               rw [errB_bad (by rw [hxl]; exact OkBad.no hbi (by omega))]
               rfl)
            | (refine ⟨_, rfl, ?_, hw⟩
               rw [errB_bad (by rw [hxl]; exact OkBad.no2 hbi hd (by omega) (by omega))]
               rfl)
            | (refine ⟨_, rfl, ?_, hw⟩
               rw [errB_len (by omega)]
               rfl)
            | (refine ⟨_, rfl, ?_, hw⟩
               rw [errB_ok (by omega) hok (by omega), if_neg (show ¬ bad.length ≤ 3 by omega)]
               rfl)
            | (refine ⟨_, rfl, ?_, hw⟩
               rw [errB_ok (by omega) hok (by omega), if_pos (show bad.length ≤ 3 by omega)]
               rfl)
        ·
          refine WL.assign rfl rfl (WL.nil (WX.then_normal (WC.cond_false rfl (WC.seq (WC.region (WL.move rfl rfl (WL.len Try.underlying33 rfl rfl (?_))))))))
          refine WL.gtr? rfl rfl rfl (fun h55 => ?_) (fun h55 => ?_)
          ·
            refine WL.assign rfl rfl (WL.nil (WX.then_normal (WC.cond_true rfl (WC.seq (WC.region (WL.assign rfl rfl (WL.assign rfl rfl (?_))))))))
            refine WL.nil (WX.then_normal (WC.ret (WX.block_ret (WX.then_ret (?_)))))
            refine WX.ret2 (.inl rfl) Try.results38 rfl rfl ?_
            first
              | (refine ⟨_, rfl, ?_, hw⟩
                 rw [errB_shape (by omega)]
                 rfl)
              | (refine ⟨_, rfl, ?_, hw⟩
                 rw [errB_bad (by rw [hxl]; exact OkBad.no hbi (by omega))]
                 rfl)
              | (refine ⟨_, rfl, ?_, hw⟩
                 rw [errB_bad (by rw [hxl]; exact OkBad.no2 hbi hd (by omega) (by omega))]
                 rfl)
              | (refine ⟨_, rfl, ?_, hw⟩
                 rw [errB_len (by omega)]
                 rfl)
              | (refine ⟨_, rfl, ?_, hw⟩
                 rw [errB_ok (by omega) hok (by omega), if_neg (show ¬ bad.length ≤ 3 by omega)]
                 rfl)
              | (refine ⟨_, rfl, ?_, hw⟩
                 rw [errB_ok (by omega) hok (by omega), if_pos (show bad.length ≤ 3 by omega)]
                 rfl)
          ·
            refine WL.assign rfl rfl (WL.nil (WX.then_normal (WC.cond_false rfl (WC.skip (WX.block_normal (WX.then_normal (WC.seq (?_))))))))
            refine WC.region (WL.move rfl rfl (WL.assign rfl rfl (WL.assign rfl rfl (WL.nil (WX.then_normal (WC.ret (?_)))))))
            refine WX.ret2 (.inl rfl) Try.results38 rfl rfl ?_
            first
              | (refine ⟨_, rfl, ?_, hw⟩
                 rw [errB_shape (by omega)]
                 rfl)
              | (refine ⟨_, rfl, ?_, hw⟩
                 rw [errB_bad (by rw [hxl]; exact OkBad.no hbi (by omega))]
                 rfl)
              | (refine ⟨_, rfl, ?_, hw⟩
                 rw [errB_bad (by rw [hxl]; exact OkBad.no2 hbi hd (by omega) (by omega))]
                 rfl)
              | (refine ⟨_, rfl, ?_, hw⟩
                 rw [errB_len (by omega)]
                 rfl)
              | (refine ⟨_, rfl, ?_, hw⟩
                 rw [errB_ok (by omega) hok (by omega), if_neg (show ¬ bad.length ≤ 3 by omega)]
                 rfl)
              | (refine ⟨_, rfl, ?_, hw⟩
                 rw [errB_ok (by omega) hok (by omega), if_pos (show bad.length ≤ 3 by omega)]
                 rfl)
end Go.Proofs.Ytjdbjdgobhjbkaa
namespace Go.Proofs.Ytjdbjdgobhjbkaa
open Go.RowKit Go.HL

theorem has_calls {S : Nat → Prop} {w : World} {ao : Option Addr} {c : Nat} {l : List Int} (hr : RSl S w ei ao c l) (hll : l.length ≤ 140737488351232) (x : Int) :
    Calls Try.prog 35 [.slice ao l.length c, vi x].toArray w (Ret fun v w' => v = .bool (decide (x ∈ l)) ∧ Chg Nob w w') := by
  replace hr := hr.old
  have hw := Chg.refl Nob w
  refine Calls.of_WC Try.func35 rfl Try.ntmps35 (by simp) ?_
  refine WC.seq (WC.region (WL.assign rfl rfl (WL.nil (WX.then_normal (WC.seq (WC.seq (WC.region (?_))))))))
  refine WL.assign rfl rfl (WL.nil (WX.then_normal (WC.block (?_))))
  refine WC.loop (σ := Nat) (fun i => [(0, .slice ao l.length c), (1, vi x), (5, vi i)])
    (fun i w' => i ≤ l.length ∧ (∀ j : Nat, j < i → l[j]? ≠ some x) ∧ RSl (· < w.heap.size) w' ei ao c l ∧ Chg Nob w w') (fun i => l.length - i) 0 ⟨rfl, rfl, rfl, trivial⟩ ⟨Nat.zero_le _, fun j h => absurd h (by omega), hr, hw⟩ ?_
  clear hr hw
  rintro i w2 ⟨hi, hall, hr, hw⟩
  refine WC.seq (WC.seq (WC.region (WL.move rfl rfl (WL.move rfl rfl (WL.len Try.underlying33 rfl rfl (?_))))))
  refine WL.lss? rfl rfl rfl (fun h9 => ?_) (fun h9 => ?_)
  ·
    refine WL.nil (WX.then_normal (WC.cond_true rfl (WC.skip (WX.then_normal (WC.seq (WC.block (WC.seq (?_))))))))
    refine WC.region (WL.move rfl rfl (WL.move rfl rfl (?_)))
    obtain ⟨y, hy⟩ : ∃ y, l[i]? = some y := ⟨_, List.getElem?_eq_getElem (by omega)⟩
    refine WL.indexT Try.underlying33 Try.sizeOf3 hr rfl rfl ⟨hy, rfl⟩ rfl ?_
    intro b_1 o_1 hc_1
    refine WL.load Try.isAgg3 rfl (hc_1 0 _ rfl) rfl (WL.move rfl rfl (?_))
    refine WL.eql? rfl rfl rfl (fun h17 => ?_) (fun h17 => ?_)
    ·
      refine WL.nil (WX.then_normal (WC.cond_true rfl (WC.seq (WC.region (WL.assign rfl rfl (WL.nil (WX.then_normal (?_))))))))
      refine WC.ret (WX.block_ret (WX.then_ret (WX.then_ret (WX.block_ret (WX.then_ret (?_))))))
      refine WX.ret1 (.inl rfl) Try.results35 rfl ?_
      first
        | (refine ⟨_, rfl, congrArg Value.bool (decide_eq_true ?_).symm, hw⟩
           rw [← h17]
           exact List.mem_of_getElem? hy)
        | (refine ⟨_, rfl, congrArg Value.bool (decide_eq_false (fun h => ?_)).symm, hw⟩
           obtain ⟨j, hj⟩ := List.getElem?_of_mem h
           have hjl := (List.getElem?_eq_some_iff.1 hj).1
           exact absurd hj (hall j (by omega)))
    ·
      refine WL.nil (WX.then_normal (WC.cond_false rfl (WC.skip (WX.block_normal (WX.then_normal (WC.region (WL.move rfl rfl (?_))))))))
      refine WL.add64 rfl rfl (by first | omega | (constructor <;> omega)) rfl (WL.assign rfl rfl (WL.nil (?_)))
      refine WX.loop_next (i + 1) ⟨rfl, rfl, rfl, trivial⟩ ⟨by omega, fun j h => ?_, hr, hw⟩ (by show _ - _ < _ - _; omega)
      rcases Nat.lt_or_ge j i with h3 | h3
      ·
        exact hall j h3
      ·
        rw [show j = i from by omega, hy]
        exact fun e => h17 (by injection e)
  ·
    refine WL.nil (WX.then_normal (WC.cond_false rfl (WC.exit (WX.then_exit (WX.then_exit (WX.block_here (WX.then_normal (?_))))))))
    refine WC.seq (WC.region (WL.assign rfl rfl (WL.nil (WX.then_normal (WC.ret (?_))))))
    refine WX.ret1 (.inl rfl) Try.results35 rfl ?_
    first
      | (refine ⟨_, rfl, congrArg Value.bool (decide_eq_true ?_).symm, hw⟩
         rw [← h17]
         exact List.mem_of_getElem? hy)
      | (refine ⟨_, rfl, congrArg Value.bool (decide_eq_false (fun h => ?_)).symm, hw⟩
         obtain ⟨j, hj⟩ := List.getElem?_of_mem h
         have hjl := (List.getElem?_eq_some_iff.1 hj).1
         exact absurd hj (hall j (by omega)))
set_option maxHeartbeats 1000000 in
theorem even_calls2 {S S2 : Nat → Prop} {w : World} {ao ab : Option Addr} {c cb : Nat} {rs : List Rw} {bad : List Int} (hc : RS S w ao c rs) (hb : RSl S2 w ei ab cb bad) (hl : rs.length * 24 ≤ 140737488351232) (hbl : bad.length ≤ 140737488351232) :
    Calls Try.prog 34 [.slice ao rs.length c, .slice ab bad.length cb].toArray w (Ret fun v w' => v = vi (lenB (xss rs) bad) ∧ Chg Nob w w') := by
  replace hc := hc.old
  replace hb := hb.old
  have hw := Chg.refl Nob w
  have hxl := xss_len rs
  refine Calls.of_WC Try.func34 rfl Try.ntmps34 (by simp) ?_
  refine WC.seq (WC.region (WL.assign rfl rfl (WL.nil (WX.then_normal (WC.seq (WC.region (WL.assign rfl rfl (?_))))))))
  refine WL.nil (WX.then_normal (WC.seq (WC.seq (WC.region (WL.assign rfl rfl (WL.nil (WX.then_normal (?_))))))))
  refine WC.block (?_)
  refine WC.loop (σ := Nat × Int) (fun q => [(0, .slice ao rs.length c), (1, .slice ab bad.length cb), (5, vi q.2), (6, vi q.1)])
    (fun q w' => q.1 ≤ rs.length ∧ LInv (xss rs) bad q.1 q.2 ∧ RS (· < w.heap.size) w' ao c rs ∧ RSl (· < w.heap.size) w' ei ab cb bad ∧ Chg Nob w w') (fun q => rs.length - q.1) (0, -1) ⟨rfl, rfl, rfl, rfl, trivial⟩ ⟨Nat.zero_le _, LInv.start _ _, hc, hb, hw⟩ ?_
  clear hc hb hw
  rintro ⟨i, n⟩ w2 ⟨hi, hI, hc, hb, hw⟩
  simp only at hi hI
  dsimp only
  refine WC.seq (WC.seq (WC.region (WL.move rfl rfl (WL.move rfl rfl (WL.len Try.underlying22 rfl rfl (?_))))))
  refine WL.lss? rfl rfl rfl (fun h10 => ?_) (fun h10 => ?_)
  ·
    refine WL.nil (WX.then_normal (WC.cond_true rfl (WC.skip (WX.then_normal (WC.seq (WC.block (WC.seq (?_))))))))
    refine WC.seq (WC.region (WL.move rfl rfl (WL.move rfl rfl (?_))))
    obtain ⟨r, hr⟩ : ∃ r, rs[i]? = some r := ⟨_, List.getElem?_eq_getElem (by omega)⟩
    have hrx := xss_at hr
    refine WL.call eg_35 rfl rfl (has_calls hb hbl _) ?_
    rintro v w3 ⟨rfl, k⟩
    have zs_k := k.size
    replace hc := hc.pure k
    replace hb := hb.pure k
    replace hw := hw.pure k
    by_cases hbi : (i : Int) ∈ bad
    ·
      rw [decide_eq_true hbi]
      refine WL.nil (WX.then_normal (WC.cond_true rfl (WC.exit (WX.then_exit (WX.block_here (WX.then_normal (WC.region (?_))))))))
      refine WL.move rfl rfl (WL.add64 rfl rfl (by first | omega | (constructor <;> omega)) rfl (WL.assign rfl rfl (WL.nil (?_))))
      first
        | exact WX.loop_next (i + 1, n) ⟨rfl, rfl, rfl, rfl, trivial⟩ ⟨by show i + 1 ≤ _; omega, hI.skip hbi, hc, hb, hw⟩ (by show rs.length - (i + 1) < rs.length - i; omega)
        | exact WX.loop_next (i + 1, (r.xs.length : Int)) ⟨rfl, rfl, rfl, rfl, trivial⟩ ⟨by show i + 1 ≤ _; omega, hI.next hrx hbi (by omega), hc, hb, hw⟩ (by show rs.length - (i + 1) < rs.length - i; omega)
    ·
      rw [decide_eq_false hbi]
      refine WL.nil (WX.then_normal (WC.cond_false rfl (WC.skip (WX.then_normal (WC.seq (WC.seq (WC.region (?_))))))))
      refine WL.move rfl rfl (?_)
      refine WL.geq? rfl rfl rfl (fun h17 => ?_) (fun h17 => ?_)
      ·
        refine WL.move rfl rfl (WL.want rfl rfl rfl (WL.move rfl rfl (WL.want rfl rfl rfl (WL.move rfl rfl (WL.want rfl rfl rfl (?_))))))
        refine WL.indexT Try.underlying22 Try.sizeOf23 hc.outer rfl rfl ⟨hr, rfl⟩ rfl ?_
        intro b_1 o_1 hc_1
        refine WL.want rfl rfl rfl (WL.load Try.isAgg23 rfl (hc_1 0 _ rfl) rfl (WL.want rfl rfl rfl (WL.len Try.underlying23 rfl rfl (WL.want rfl rfl rfl (WL.move rfl rfl (WL.want rfl rfl rfl (?_)))))))
        refine WL.neq? rfl rfl rfl (fun h25 => ?_) (fun h25 => ?_)
        ·
          refine WL.pickT rfl rfl rfl (WL.nil (WX.then_normal (WC.cond_true rfl (WC.seq (WC.region (WL.assign rfl rfl (WL.nil (?_))))))))
          refine WX.then_normal (WC.ret (WX.then_ret (WX.block_ret (WX.then_ret (WX.then_ret (WX.block_ret (WX.then_ret (?_))))))))
          refine WX.ret1 (.inl rfl) Try.results34 rfl ?_
          first
            | (refine ⟨_, rfl, ?_, hw⟩
               rw [hI.uneven hrx hbi ⟨by omega, by omega⟩])
            | (refine ⟨_, rfl, ?_, hw⟩
               rw [hI.done (by omega)]
               first
                 | (rw [if_neg (by omega)]; done)
                 | (rw [if_pos (by omega)]; done))
        ·
          refine WL.pickT rfl rfl rfl (WL.nil (WX.then_normal (WC.cond_false rfl (WC.skip (WX.then_normal (WC.region (WL.move rfl rfl (?_))))))))
          refine WL.move rfl rfl (?_)
          refine WL.indexT Try.underlying22 Try.sizeOf23 hc.outer rfl rfl ⟨hr, rfl⟩ rfl ?_
          intro b_2 o_2 hc_2
          refine WL.load Try.isAgg23 rfl (hc_2 0 _ rfl) rfl (WL.len Try.underlying23 rfl rfl (WL.assign rfl rfl (WL.nil (WX.block_normal (WX.then_normal (WC.region (WL.move rfl rfl (?_))))))))
          refine WL.add64 rfl rfl (by first | omega | (constructor <;> omega)) rfl (WL.assign rfl rfl (WL.nil (?_)))
          first
            | exact WX.loop_next (i + 1, n) ⟨rfl, rfl, rfl, rfl, trivial⟩ ⟨by show i + 1 ≤ _; omega, hI.skip hbi, hc, hb, hw⟩ (by show rs.length - (i + 1) < rs.length - i; omega)
            | exact WX.loop_next (i + 1, (r.xs.length : Int)) ⟨rfl, rfl, rfl, rfl, trivial⟩ ⟨by show i + 1 ≤ _; omega, hI.next hrx hbi (by omega), hc, hb, hw⟩ (by show rs.length - (i + 1) < rs.length - i; omega)
      ·
        refine WL.move rfl rfl (WL.pass rfl rfl rfl rfl (WL.pass rfl rfl rfl rfl (WL.pass rfl rfl rfl rfl (WL.pass rfl rfl rfl rfl (WL.pass rfl rfl rfl rfl (WL.pass rfl rfl rfl rfl (WL.pass rfl rfl rfl rfl (?_))))))))
        refine WL.pickF rfl rfl rfl (WL.nil (WX.then_normal (WC.cond_false rfl (WC.skip (WX.then_normal (WC.region (WL.move rfl rfl (?_))))))))
        refine WL.move rfl rfl (?_)
        refine WL.indexT Try.underlying22 Try.sizeOf23 hc.outer rfl rfl ⟨hr, rfl⟩ rfl ?_
        intro b_1 o_1 hc_1
        refine WL.load Try.isAgg23 rfl (hc_1 0 _ rfl) rfl (WL.len Try.underlying23 rfl rfl (WL.assign rfl rfl (WL.nil (WX.block_normal (WX.then_normal (WC.region (WL.move rfl rfl (?_))))))))
        refine WL.add64 rfl rfl (by first | omega | (constructor <;> omega)) rfl (WL.assign rfl rfl (WL.nil (?_)))
        first
          | exact WX.loop_next (i + 1, n) ⟨rfl, rfl, rfl, rfl, trivial⟩ ⟨by show i + 1 ≤ _; omega, hI.skip hbi, hc, hb, hw⟩ (by show rs.length - (i + 1) < rs.length - i; omega)
          | exact WX.loop_next (i + 1, (r.xs.length : Int)) ⟨rfl, rfl, rfl, rfl, trivial⟩ ⟨by show i + 1 ≤ _; omega, hI.next hrx hbi (by omega), hc, hb, hw⟩ (by show rs.length - (i + 1) < rs.length - i; omega)
  ·
    refine WL.nil (WX.then_normal (WC.cond_false rfl (WC.exit (WX.then_exit (WX.then_exit (WX.block_here (WX.then_normal (?_))))))))
    refine WC.seq (WC.seq (WC.region (WL.move rfl rfl (?_))))
    refine WL.lss? rfl rfl rfl (fun h33 => ?_) (fun h33 => ?_)
    ·
      refine WL.move rfl rfl (WL.pass rfl rfl rfl rfl (WL.pass rfl rfl rfl rfl (WL.pickT rfl rfl rfl (WL.nil (WX.then_normal (WC.cond_true rfl (WC.seq (?_))))))))
      refine WC.region (WL.assign rfl rfl (WL.nil (WX.then_normal (WC.ret (WX.then_ret (?_))))))
      refine WX.ret1 (.inl rfl) Try.results34 rfl ?_
      first
        | (refine ⟨_, rfl, ?_, hw⟩
           rw [hI.uneven hrx hbi ⟨by omega, by omega⟩])
        | (refine ⟨_, rfl, ?_, hw⟩
           rw [hI.done (by omega)]
           first
             | (rw [if_neg (by omega)]; done)
             | (rw [if_pos (by omega)]; done))
    ·
      refine WL.move rfl rfl (WL.want rfl rfl rfl (WL.move rfl rfl (WL.want rfl rfl rfl (?_))))
      refine WL.gtr? rfl rfl rfl (fun h36 => ?_) (fun h36 => ?_)
      ·
        refine WL.pickF rfl rfl rfl (WL.nil (WX.then_normal (WC.cond_true rfl (WC.seq (WC.region (WL.assign rfl rfl (WL.nil (?_))))))))
        refine WX.then_normal (WC.ret (WX.then_ret (?_)))
        refine WX.ret1 (.inl rfl) Try.results34 rfl ?_
        first
          | (refine ⟨_, rfl, ?_, hw⟩
             rw [hI.uneven hrx hbi ⟨by omega, by omega⟩])
          | (refine ⟨_, rfl, ?_, hw⟩
             rw [hI.done (by omega)]
             first
               | (rw [if_neg (by omega)]; done)
               | (rw [if_pos (by omega)]; done))
      ·
        refine WL.pickF rfl rfl rfl (WL.nil (WX.then_normal (WC.cond_false rfl (WC.skip (WX.then_normal (WC.seq (WC.region (?_))))))))
        refine WL.move rfl rfl (WL.assign rfl rfl (WL.nil (WX.then_normal (WC.ret (?_)))))
        refine WX.ret1 (.inl rfl) Try.results34 rfl ?_
        first
          | (refine ⟨_, rfl, ?_, hw⟩
             rw [hI.uneven hrx hbi ⟨by omega, by omega⟩])
          | (refine ⟨_, rfl, ?_, hw⟩
             rw [hI.done (by omega)]
             first
               | (rw [if_neg (by omega)]; done)
               | (rw [if_pos (by omega)]; done))
set_option maxHeartbeats 1000000 in
theorem refRight_calls {S S2 : Nat → Prop} {w : World} {ao ab : Option Addr} {c cb : Nat} {rs : List Rw} {bad : List Int} (hc : RS S w ao c rs) (hb : RSl S2 w ei ab cb bad) (hl : rs.length * 24 ≤ 140737488351232) (hbl : bad.length ≤ 140737488351232) :
    Calls Try.prog 33 [.slice ao rs.length c, .slice ab bad.length cb].toArray w (Ret fun v w' => v = vi (errB (xss rs) bad) ∧ Chg Nob w w') := by
  replace hc := hc.old
  replace hb := hb.old
  have hw := Chg.refl Nob w
  have hxl := xss_len rs
  refine Calls.of_WC Try.func33 rfl Try.ntmps33 (by simp) ?_
  refine WC.seq (WC.region (WL.assign rfl rfl (WL.nil (WX.then_normal (WC.seq (WC.seq (WC.region (?_))))))))
  refine WL.move rfl rfl (WL.len Try.underlying22 rfl rfl (?_))
  refine WL.lss? rfl rfl rfl (fun h8 => ?_) (fun h8 => ?_)
  ·
    refine WL.move rfl rfl (WL.pass rfl rfl rfl rfl (WL.pass rfl rfl rfl rfl (WL.pass rfl rfl rfl rfl (WL.pickT rfl rfl rfl (WL.nil (WX.then_normal (WC.cond_true rfl (?_))))))))
    refine WC.seq (WC.region (WL.assign rfl rfl (WL.nil (WX.then_normal (WC.ret (WX.then_ret (?_)))))))
    refine WX.ret1 (.inl rfl) Try.results33 rfl ?_
    first
      | (refine ⟨_, rfl, ?_, hw⟩
         rw [errB_shape (by omega)])
      | (refine ⟨_, rfl, ?_, hw⟩
         rw [errB_bad (by rw [hxl]; exact OkBad.no hbi (by omega))])
      | (refine ⟨_, rfl, ?_, hw⟩
         rw [errB_bad (by rw [hxl]; exact OkBad.no2 hbi (hd0 (by omega)) (by omega) (by omega))])
      | (refine ⟨_, rfl, ?_, hw⟩
         rw [errB_len (by omega)])
      | (refine ⟨_, rfl, ?_, hw⟩
         rw [errB_ok (by omega) hok (by omega), if_neg (show ¬ bad.length ≤ 3 by omega)])
      | (refine ⟨_, rfl, ?_, hw⟩
         rw [errB_ok (by omega) hok (by omega), if_pos (show bad.length ≤ 3 by omega)])
  ·
    refine WL.move rfl rfl (WL.want rfl rfl rfl (WL.move rfl rfl (WL.want rfl rfl rfl (WL.len Try.underlying22 rfl rfl (WL.want rfl rfl rfl (?_))))))
    refine WL.gtr? rfl rfl rfl (fun h12 => ?_) (fun h12 => ?_)
    ·
      refine WL.pickF rfl rfl rfl (WL.nil (WX.then_normal (WC.cond_true rfl (WC.seq (WC.region (WL.assign rfl rfl (WL.nil (?_))))))))
      refine WX.then_normal (WC.ret (WX.then_ret (?_)))
      refine WX.ret1 (.inl rfl) Try.results33 rfl ?_
      first
        | (refine ⟨_, rfl, ?_, hw⟩
           rw [errB_shape (by omega)])
        | (refine ⟨_, rfl, ?_, hw⟩
           rw [errB_bad (by rw [hxl]; exact OkBad.no hbi (by omega))])
        | (refine ⟨_, rfl, ?_, hw⟩
           rw [errB_bad (by rw [hxl]; exact OkBad.no2 hbi (hd0 (by omega)) (by omega) (by omega))])
        | (refine ⟨_, rfl, ?_, hw⟩
           rw [errB_len (by omega)])
        | (refine ⟨_, rfl, ?_, hw⟩
           rw [errB_ok (by omega) hok (by omega), if_neg (show ¬ bad.length ≤ 3 by omega)])
        | (refine ⟨_, rfl, ?_, hw⟩
           rw [errB_ok (by omega) hok (by omega), if_pos (show bad.length ≤ 3 by omega)])
    ·
      refine WL.pickF rfl rfl rfl (WL.nil (WX.then_normal (WC.cond_false rfl (WC.skip (WX.then_normal (WC.seq (WC.seq (?_))))))))
      refine WC.region (WL.assign rfl rfl (WL.nil (WX.then_normal (WC.block (?_)))))
      refine WC.loop (σ := Nat) (fun i => [(0, .slice ao rs.length c), (1, .slice ab bad.length cb), (5, vi i)])
        (fun i w' => i ≤ bad.length ∧ OkTo rs.length bad i ∧ RS (· < w.heap.size) w' ao c rs ∧ RSl (· < w.heap.size) w' ei ab cb bad ∧ Chg Nob w w') (fun i => bad.length - i) 0 ⟨rfl, rfl, rfl, trivial⟩ ⟨Nat.zero_le _, OkTo.start _ _, hc, hb, hw⟩ ?_
      clear hc hb hw
      rintro i w2 ⟨hi, hI, hc, hb, hw⟩
      refine WC.seq (WC.seq (WC.region (WL.move rfl rfl (WL.move rfl rfl (WL.len Try.underlying33 rfl rfl (?_))))))
      refine WL.lss? rfl rfl rfl (fun h17 => ?_) (fun h17 => ?_)
      ·
        refine WL.nil (WX.then_normal (WC.cond_true rfl (WC.skip (WX.then_normal (WC.seq (WC.block (WC.seq (?_))))))))
        obtain ⟨b, hbi⟩ : ∃ b, bad[i]? = some b := ⟨_, List.getElem?_eq_getElem (by omega)⟩
        obtain ⟨d, hd0⟩ : ∃ d : Int, 0 < i → bad[i - 1]? = some d := ⟨bad.getD (i - 1) 0, fun h => by rw [List.getD_eq_getElem?_getD, List.getElem?_eq_getElem (by omega)]; rfl⟩
        obtain ⟨b1, o1, rfl⟩ := hb.place hbi
        refine WC.draw (Nob) [0, 1, 2, 3, 4, 5, 6, 7, 8, 9, 10, 11, 12, 13, 14, 15, 16, 17, 18, 19, 20, 21, 22, 23, 24, 25, 26, 27, 28, 29] [] mixed rfl rfl (fun wd_1 kd_1 zd_1 => ?_)
        have zs_kd_1 := kd_1.size
        replace hc := hc.pure kd_1
        replace hb := hb.pure kd_1
        replace hw := hw.pure kd_1
        apply DQ.step (E' := [(1, _)])
        case ho => rfl
        case hs => exact ⟨rfl, trivial⟩
        case hk => rfl
        case h1 =>
          intro wq_2 kq_2
          refine WL.move rfl rfl (?_)
          refine WL.nil ?_
          exact WX.one ⟨rfl, by first | exact Chg.refl _ _ | assumption⟩
        apply DQ.step (E' := [(5, _)])
        case ho => rfl
        case hs => exact ⟨rfl, trivial⟩
        case hk => rfl
        case h1 =>
          intro wq_3 kq_3
          refine WL.move rfl rfl (?_)
          refine WL.nil ?_
          exact WX.one ⟨rfl, by first | exact Chg.refl _ _ | assumption⟩
        apply DQ.step (E' := [(20, _), (21, _)])
        case ho => rfl
        case hs => exact ⟨rfl, rfl, trivial⟩
        case hk => rfl
        case h1 =>
          intro wq_4 kq_4
          have zs_kq_4 := kq_4.size
          replace hc := hc.pure kq_4
          replace hb := hb.pure kq_4
          replace hw := hw.pure kq_4
          refine WL.indexC hb Try.underlying33 Try.sizeOf3 rfl rfl ⟨hbi, rfl⟩ rfl ?_
          refine WL.nil ?_
          exact WX.one ⟨rfl, by first | exact Chg.refl _ _ | assumption⟩
        apply DQ.step (E' := [(22, _)])
        case ho => rfl
        case hs => exact ⟨rfl, trivial⟩
        case hk => rfl
        case h1 =>
          intro wq_5 kq_5
          have zs_kq_5 := kq_5.size
          replace hc := hc.pure kq_5
          replace hb := hb.pure kq_5
          replace hw := hw.pure kq_5
          refine WL.load Try.isAgg3 rfl ((hb.cellsAt hbi) 0 _ rfl) rfl (?_)
          refine WL.nil ?_
          exact WX.one ⟨rfl, by first | exact Chg.refl _ _ | assumption⟩
        apply DQ.split (E' := [(23, _)])
        case ho => rfl
        case hs => exact ⟨rfl, trivial⟩
        case hk => rfl
        case h1 =>
          intro wq_6 kq_6
          refine WL.lss rfl rfl rfl ?_
          refine WL.nil ?_
          exact WX.one ⟨rfl, by first | exact Chg.refl _ _ | assumption⟩
        case ht =>
          intro h24
          replace h24 := of_decide_eq_true h24
          apply DQ.step (E' := [(24, _)])
          case ho => rfl
          case hs => exact ⟨rfl, trivial⟩
          case hk => rfl
          case h1 =>
            intro wq_7 kq_7
            refine WL.move rfl rfl (?_)
            refine WL.nil ?_
            exact WX.one ⟨rfl, by first | exact Chg.refl _ _ | assumption⟩
          apply DQ.step (E' := [(1, _), (25, _)])
          case ho => rfl
          case hs => exact ⟨rfl, rfl, trivial⟩
          case hk => rfl
          case h1 =>
            intro wq_8 kq_8
            refine WL.pass rfl rfl rfl rfl (WL.nil (?_))
            exact WX.one ⟨rfl, by first | exact Chg.refl _ _ | assumption⟩
          apply DQ.step (E' := [(5, _), (25, _)])
          case ho => rfl
          case hs => exact ⟨rfl, rfl, trivial⟩
          case hk => rfl
          case h1 =>
            intro wq_9 kq_9
            refine WL.pass rfl rfl rfl rfl (WL.nil (?_))
            exact WX.one ⟨rfl, by first | exact Chg.refl _ _ | assumption⟩
          apply DQ.step (E' := [(26, _), (27, _), (25, _)])
          case ho => rfl
          case hs => exact ⟨rfl, rfl, rfl, trivial⟩
          case hk => rfl
          case h1 =>
            intro wq_10 kq_10
            have zs_kq_10 := kq_10.size
            replace hc := hc.pure kq_10
            replace hb := hb.pure kq_10
            replace hw := hw.pure kq_10
            refine WL.pass rfl rfl rfl rfl (WL.nil (?_))
            exact WX.one ⟨rfl, by first | exact Chg.refl _ _ | assumption⟩
          apply DQ.step (E' := [(28, _), (25, _)])
          case ho => rfl
          case hs => exact ⟨rfl, rfl, trivial⟩
          case hk => rfl
          case h1 =>
            intro wq_11 kq_11
            have zs_kq_11 := kq_11.size
            replace hc := hc.pure kq_11
            replace hb := hb.pure kq_11
            replace hw := hw.pure kq_11
            refine WL.pass rfl rfl rfl rfl (WL.nil (?_))
            exact WX.one ⟨rfl, by first | exact Chg.refl _ _ | assumption⟩
          apply DQ.step (E' := [(0, _), (25, _)])
          case ho => rfl
          case hs => exact ⟨rfl, rfl, trivial⟩
          case hk => rfl
          case h1 =>
            intro wq_12 kq_12
            refine WL.pass rfl rfl rfl rfl (WL.nil (?_))
            exact WX.one ⟨rfl, by first | exact Chg.refl _ _ | assumption⟩
          apply DQ.step (E' := [(30, _), (25, _)])
          case ho => rfl
          case hs => exact ⟨rfl, rfl, trivial⟩
          case hk => rfl
          case h1 =>
            intro wq_13 kq_13
            have zs_kq_13 := kq_13.size
            replace hc := hc.pure kq_13
            replace hb := hb.pure kq_13
            replace hw := hw.pure kq_13
            refine WL.pass rfl rfl rfl rfl (WL.nil (?_))
            exact WX.one ⟨rfl, by first | exact Chg.refl _ _ | assumption⟩
          apply DQ.step (E' := [(29, _), (31, _), (25, _)])
          case ho => rfl
          case hs => exact ⟨rfl, rfl, rfl, trivial⟩
          case hk => rfl
          case h1 =>
            intro wq_14 kq_14
            refine WL.pass rfl rfl rfl rfl (WL.nil (?_))
            exact WX.one ⟨rfl, by first | exact Chg.refl _ _ | assumption⟩
          apply DQ.step (E' := [(25, _), (32, _)])
          case ho => rfl
          case hs => exact ⟨rfl, rfl, trivial⟩
          case hk => rfl
          case h1 =>
            intro wq_15 kq_15
            refine WL.pickT rfl rfl rfl (?_)
            refine WL.nil ?_
            exact WX.one ⟨rfl, by first | exact Chg.refl _ _ | assumption⟩
          apply DQ.step (E' := [(33, _)])
          case ho => rfl
          case hs => exact ⟨rfl, trivial⟩
          case hk => rfl
          case h1 =>
            intro wq_16 kq_16
            refine WL.move rfl rfl (?_)
            refine WL.nil ?_
            exact WX.one ⟨rfl, by first | exact Chg.refl _ _ | assumption⟩
          apply DQ.step (E' := [(5, _), (34, _)])
          case ho => rfl
          case hs => exact ⟨rfl, rfl, trivial⟩
          case hk => rfl
          case h1 =>
            intro wq_17 kq_17
            refine WL.pass rfl rfl rfl rfl (WL.nil (?_))
            exact WX.one ⟨rfl, by first | exact Chg.refl _ _ | assumption⟩
          apply DQ.step (E' := [(35, _), (34, _)])
          case ho => rfl
          case hs => exact ⟨rfl, rfl, trivial⟩
          case hk => rfl
          case h1 =>
            intro wq_18 kq_18
            refine WL.pass rfl rfl rfl rfl (WL.nil (?_))
            exact WX.one ⟨rfl, by first | exact Chg.refl _ _ | assumption⟩
          apply DQ.step (E' := [(36, _), (34, _)])
          case ho => rfl
          case hs => exact ⟨rfl, rfl, trivial⟩
          case hk => rfl
          case h1 =>
            intro wq_19 kq_19
            refine WL.pass rfl rfl rfl rfl (WL.nil (?_))
            exact WX.one ⟨rfl, by first | exact Chg.refl _ _ | assumption⟩
          apply DQ.step (E' := [(1, _), (37, _)])
          case ho => rfl
          case hs => exact ⟨rfl, rfl, trivial⟩
          case hk => rfl
          case h1 =>
            intro wq_20 kq_20
            refine WL.passU rfl rfl rfl (WL.nil (?_))
            exact WX.one ⟨rfl, by first | exact Chg.refl _ _ | assumption⟩
          apply DQ.step (E' := [(5, _), (37, _)])
          case ho => rfl
          case hs => exact ⟨rfl, rfl, trivial⟩
          case hk => rfl
          case h1 =>
            intro wq_21 kq_21
            refine WL.passU rfl rfl rfl (WL.nil (?_))
            exact WX.one ⟨rfl, by first | exact Chg.refl _ _ | assumption⟩
          apply DQ.step (E' := [(38, _), (39, _), (37, _)])
          case ho => rfl
          case hs => exact ⟨rfl, rfl, rfl, trivial⟩
          case hk => rfl
          case h1 =>
            intro wq_22 kq_22
            have zs_kq_22 := kq_22.size
            replace hc := hc.pure kq_22
            replace hb := hb.pure kq_22
            replace hw := hw.pure kq_22
            refine WL.passU rfl rfl rfl (WL.nil (?_))
            exact WX.one ⟨rfl, by first | exact Chg.refl _ _ | assumption⟩
          apply DQ.step (E' := [(40, _), (37, _)])
          case ho => rfl
          case hs => exact ⟨rfl, rfl, trivial⟩
          case hk => rfl
          case h1 =>
            intro wq_23 kq_23
            have zs_kq_23 := kq_23.size
            replace hc := hc.pure kq_23
            replace hb := hb.pure kq_23
            replace hw := hw.pure kq_23
            refine WL.passU rfl rfl rfl (WL.nil (?_))
            exact WX.one ⟨rfl, by first | exact Chg.refl _ _ | assumption⟩
          apply DQ.step (E' := [(1, _), (37, _)])
          case ho => rfl
          case hs => exact ⟨rfl, rfl, trivial⟩
          case hk => rfl
          case h1 =>
            intro wq_24 kq_24
            refine WL.passU rfl rfl rfl (WL.nil (?_))
            exact WX.one ⟨rfl, by first | exact Chg.refl _ _ | assumption⟩
          apply DQ.step (E' := [(5, _), (37, _)])
          case ho => rfl
          case hs => exact ⟨rfl, rfl, trivial⟩
          case hk => rfl
          case h1 =>
            intro wq_25 kq_25
            refine WL.passU rfl rfl rfl (WL.nil (?_))
            exact WX.one ⟨rfl, by first | exact Chg.refl _ _ | assumption⟩
          apply DQ.step (E' := [(43, _), (37, _)])
          case ho => rfl
          case hs => exact ⟨rfl, rfl, trivial⟩
          case hk => rfl
          case h1 =>
            intro wq_26 kq_26
            refine WL.passU rfl rfl rfl (WL.nil (?_))
            exact WX.one ⟨rfl, by first | exact Chg.refl _ _ | assumption⟩
          apply DQ.step (E' := [(42, _), (44, _), (37, _)])
          case ho => rfl
          case hs => exact ⟨rfl, rfl, rfl, trivial⟩
          case hk => rfl
          case h1 =>
            intro wq_27 kq_27
            have zs_kq_27 := kq_27.size
            replace hc := hc.pure kq_27
            replace hb := hb.pure kq_27
            replace hw := hw.pure kq_27
            refine WL.passU rfl rfl rfl (WL.nil (?_))
            exact WX.one ⟨rfl, by first | exact Chg.refl _ _ | assumption⟩
          apply DQ.step (E' := [(45, _), (37, _)])
          case ho => rfl
          case hs => exact ⟨rfl, rfl, trivial⟩
          case hk => rfl
          case h1 =>
            intro wq_28 kq_28
            have zs_kq_28 := kq_28.size
            replace hc := hc.pure kq_28
            replace hb := hb.pure kq_28
            replace hw := hw.pure kq_28
            refine WL.passU rfl rfl rfl (WL.nil (?_))
            exact WX.one ⟨rfl, by first | exact Chg.refl _ _ | assumption⟩
          apply DQ.step (E' := [(41, _), (46, _), (37, _)])
          case ho => rfl
          case hs => exact ⟨rfl, rfl, rfl, trivial⟩
          case hk => rfl
          case h1 =>
            intro wq_29 kq_29
            refine WL.passU rfl rfl rfl (WL.nil (?_))
            exact WX.one ⟨rfl, by first | exact Chg.refl _ _ | assumption⟩
          apply DQ.step (E' := [(37, _), (47, _), (34, _)])
          case ho => rfl
          case hs => exact ⟨rfl, rfl, rfl, trivial⟩
          case hk => rfl
          case h1 =>
            intro wq_30 kq_30
            refine WL.pass rfl rfl rfl rfl (WL.nil (?_))
            exact WX.one ⟨rfl, by first | exact Chg.refl _ _ | assumption⟩
          apply DQ.step (E' := [(34, _), (48, _)])
          case ho => rfl
          case hs => exact ⟨rfl, rfl, trivial⟩
          case hk => rfl
          case h1 =>
            intro wq_31 kq_31
            refine WL.pickT rfl rfl rfl (?_)
            refine WL.nil ?_
            exact WX.one ⟨rfl, by first | exact Chg.refl _ _ | assumption⟩
          refine DQ.done (fun _ => ?_)
          refine DL.done (fun we_32 ke_32 => ?_)
          have zs_ke_32 := ke_32.size
          replace hc := hc.pure ke_32
          replace hb := hb.pure ke_32
          replace hw := hw.pure ke_32
          refine WX.then_normal (WC.cond_true rfl (WC.seq (WC.region (WL.assign rfl rfl (WL.nil (WX.then_normal (WC.ret (?_))))))))
          refine WX.block_ret (WX.then_ret (WX.then_ret (WX.block_ret (WX.then_ret (?_)))))
          refine WX.ret1 (.inl rfl) Try.results33 rfl ?_
          first
            | (refine ⟨_, rfl, ?_, hw⟩
               rw [errB_shape (by omega)])
            | (refine ⟨_, rfl, ?_, hw⟩
               rw [errB_bad (by rw [hxl]; exact OkBad.no hbi (by omega))])
            | (refine ⟨_, rfl, ?_, hw⟩
               rw [errB_bad (by rw [hxl]; exact OkBad.no2 hbi (hd0 (by omega)) (by omega) (by omega))])
            | (refine ⟨_, rfl, ?_, hw⟩
               rw [errB_len (by omega)])
            | (refine ⟨_, rfl, ?_, hw⟩
               rw [errB_ok (by omega) hok (by omega), if_neg (show ¬ bad.length ≤ 3 by omega)])
            | (refine ⟨_, rfl, ?_, hw⟩
               rw [errB_ok (by omega) hok (by omega), if_pos (show bad.length ≤ 3 by omega)])
        case hf =>
          intro h24
          replace h24 := of_decide_eq_false h24
          apply DQ.step (E' := [(24, _)])
          case ho => rfl
          case hs => exact ⟨rfl, trivial⟩
          case hk => rfl
          case h1 =>
            intro wq_7 kq_7
            refine WL.move rfl rfl (?_)
            refine WL.nil ?_
            exact WX.one ⟨rfl, by first | exact Chg.refl _ _ | assumption⟩
          apply DQ.step (E' := [(1, _), (25, _)])
          case ho => rfl
          case hs => exact ⟨rfl, rfl, trivial⟩
          case hk => rfl
          case h1 =>
            intro wq_8 kq_8
            refine WL.want rfl rfl rfl (WL.move rfl rfl (?_))
            refine WL.nil ?_
            exact WX.one ⟨rfl, by first | exact Chg.refl _ _ | assumption⟩
          apply DQ.step (E' := [(5, _), (25, _)])
          case ho => rfl
          case hs => exact ⟨rfl, rfl, trivial⟩
          case hk => rfl
          case h1 =>
            intro wq_9 kq_9
            refine WL.want rfl rfl rfl (WL.move rfl rfl (?_))
            refine WL.nil ?_
            exact WX.one ⟨rfl, by first | exact Chg.refl _ _ | assumption⟩
          apply DQ.step (E' := [(26, _), (27, _), (25, _)])
          case ho => rfl
          case hs => exact ⟨rfl, rfl, rfl, trivial⟩
          case hk => rfl
          case h1 =>
            intro wq_10 kq_10
            have zs_kq_10 := kq_10.size
            replace hc := hc.pure kq_10
            replace hb := hb.pure kq_10
            replace hw := hw.pure kq_10
            refine WL.want rfl rfl rfl (?_)
            refine WL.indexC hb Try.underlying33 Try.sizeOf3 rfl rfl ⟨hbi, rfl⟩ rfl ?_
            refine WL.nil ?_
            exact WX.one ⟨rfl, by first | exact Chg.refl _ _ | assumption⟩
          apply DQ.step (E' := [(28, _), (25, _)])
          case ho => rfl
          case hs => exact ⟨rfl, rfl, trivial⟩
          case hk => rfl
          case h1 =>
            intro wq_11 kq_11
            have zs_kq_11 := kq_11.size
            replace hc := hc.pure kq_11
            replace hb := hb.pure kq_11
            replace hw := hw.pure kq_11
            refine WL.want rfl rfl rfl (WL.load Try.isAgg3 rfl ((hb.cellsAt hbi) 0 _ rfl) rfl (?_))
            refine WL.nil ?_
            exact WX.one ⟨rfl, by first | exact Chg.refl _ _ | assumption⟩
          apply DQ.step (E' := [(0, _), (25, _)])
          case ho => rfl
          case hs => exact ⟨rfl, rfl, trivial⟩
          case hk => rfl
          case h1 =>
            intro wq_12 kq_12
            refine WL.want rfl rfl rfl (WL.move rfl rfl (?_))
            refine WL.nil ?_
            exact WX.one ⟨rfl, by first | exact Chg.refl _ _ | assumption⟩
          apply DQ.step (E' := [(30, _), (25, _)])
          case ho => rfl
          case hs => exact ⟨rfl, rfl, trivial⟩
          case hk => rfl
          case h1 =>
            intro wq_13 kq_13
            have zs_kq_13 := kq_13.size
            replace hc := hc.pure kq_13
            replace hb := hb.pure kq_13
            replace hw := hw.pure kq_13
            refine WL.want rfl rfl rfl (WL.len Try.underlying22 rfl rfl (?_))
            refine WL.nil ?_
            exact WX.one ⟨rfl, by first | exact Chg.refl _ _ | assumption⟩
          apply DQ.split (E' := [(29, _), (31, _), (25, _)])
          case ho => rfl
          case hs => exact ⟨rfl, rfl, rfl, trivial⟩
          case hk => rfl
          case h1 =>
            intro wq_14 kq_14
            refine WL.want rfl rfl rfl (?_)
            refine WL.geq rfl rfl rfl ?_
            refine WL.nil ?_
            exact WX.one ⟨rfl, by first | exact Chg.refl _ _ | assumption⟩
          case ht =>
            intro h32
            replace h32 := of_decide_eq_true h32
            apply DQ.step (E' := [(25, _), (32, _)])
            case ho => rfl
            case hs => exact ⟨rfl, rfl, trivial⟩
            case hk => rfl
            case h1 =>
              intro wq_15 kq_15
              refine WL.pickF rfl rfl rfl (?_)
              refine WL.nil ?_
              exact WX.one ⟨rfl, by first | exact Chg.refl _ _ | assumption⟩
            apply DQ.step (E' := [(33, _)])
            case ho => rfl
            case hs => exact ⟨rfl, trivial⟩
            case hk => rfl
            case h1 =>
              intro wq_16 kq_16
              refine WL.move rfl rfl (?_)
              refine WL.nil ?_
              exact WX.one ⟨rfl, by first | exact Chg.refl _ _ | assumption⟩
            apply DQ.step (E' := [(5, _), (34, _)])
            case ho => rfl
            case hs => exact ⟨rfl, rfl, trivial⟩
            case hk => rfl
            case h1 =>
              intro wq_17 kq_17
              refine WL.pass rfl rfl rfl rfl (WL.nil (?_))
              exact WX.one ⟨rfl, by first | exact Chg.refl _ _ | assumption⟩
            apply DQ.step (E' := [(35, _), (34, _)])
            case ho => rfl
            case hs => exact ⟨rfl, rfl, trivial⟩
            case hk => rfl
            case h1 =>
              intro wq_18 kq_18
              refine WL.pass rfl rfl rfl rfl (WL.nil (?_))
              exact WX.one ⟨rfl, by first | exact Chg.refl _ _ | assumption⟩
            apply DQ.step (E' := [(36, _), (34, _)])
            case ho => rfl
            case hs => exact ⟨rfl, rfl, trivial⟩
            case hk => rfl
            case h1 =>
              intro wq_19 kq_19
              refine WL.pass rfl rfl rfl rfl (WL.nil (?_))
              exact WX.one ⟨rfl, by first | exact Chg.refl _ _ | assumption⟩
            apply DQ.step (E' := [(1, _), (37, _)])
            case ho => rfl
            case hs => exact ⟨rfl, rfl, trivial⟩
            case hk => rfl
            case h1 =>
              intro wq_20 kq_20
              refine WL.passU rfl rfl rfl (WL.nil (?_))
              exact WX.one ⟨rfl, by first | exact Chg.refl _ _ | assumption⟩
            apply DQ.step (E' := [(5, _), (37, _)])
            case ho => rfl
            case hs => exact ⟨rfl, rfl, trivial⟩
            case hk => rfl
            case h1 =>
              intro wq_21 kq_21
              refine WL.passU rfl rfl rfl (WL.nil (?_))
              exact WX.one ⟨rfl, by first | exact Chg.refl _ _ | assumption⟩
            apply DQ.step (E' := [(38, _), (39, _), (37, _)])
            case ho => rfl
            case hs => exact ⟨rfl, rfl, rfl, trivial⟩
            case hk => rfl
            case h1 =>
              intro wq_22 kq_22
              have zs_kq_22 := kq_22.size
              replace hc := hc.pure kq_22
              replace hb := hb.pure kq_22
              replace hw := hw.pure kq_22
              refine WL.passU rfl rfl rfl (WL.nil (?_))
              exact WX.one ⟨rfl, by first | exact Chg.refl _ _ | assumption⟩
            apply DQ.step (E' := [(40, _), (37, _)])
            case ho => rfl
            case hs => exact ⟨rfl, rfl, trivial⟩
            case hk => rfl
            case h1 =>
              intro wq_23 kq_23
              have zs_kq_23 := kq_23.size
              replace hc := hc.pure kq_23
              replace hb := hb.pure kq_23
              replace hw := hw.pure kq_23
              refine WL.passU rfl rfl rfl (WL.nil (?_))
              exact WX.one ⟨rfl, by first | exact Chg.refl _ _ | assumption⟩
            apply DQ.step (E' := [(1, _), (37, _)])
            case ho => rfl
            case hs => exact ⟨rfl, rfl, trivial⟩
            case hk => rfl
            case h1 =>
              intro wq_24 kq_24
              refine WL.passU rfl rfl rfl (WL.nil (?_))
              exact WX.one ⟨rfl, by first | exact Chg.refl _ _ | assumption⟩
            apply DQ.step (E' := [(5, _), (37, _)])
            case ho => rfl
            case hs => exact ⟨rfl, rfl, trivial⟩
            case hk => rfl
            case h1 =>
              intro wq_25 kq_25
              refine WL.passU rfl rfl rfl (WL.nil (?_))
              exact WX.one ⟨rfl, by first | exact Chg.refl _ _ | assumption⟩
            apply DQ.step (E' := [(43, _), (37, _)])
            case ho => rfl
            case hs => exact ⟨rfl, rfl, trivial⟩
            case hk => rfl
            case h1 =>
              intro wq_26 kq_26
              refine WL.passU rfl rfl rfl (WL.nil (?_))
              exact WX.one ⟨rfl, by first | exact Chg.refl _ _ | assumption⟩
            apply DQ.step (E' := [(42, _), (44, _), (37, _)])
            case ho => rfl
            case hs => exact ⟨rfl, rfl, rfl, trivial⟩
            case hk => rfl
            case h1 =>
              intro wq_27 kq_27
              have zs_kq_27 := kq_27.size
              replace hc := hc.pure kq_27
              replace hb := hb.pure kq_27
              replace hw := hw.pure kq_27
              refine WL.passU rfl rfl rfl (WL.nil (?_))
              exact WX.one ⟨rfl, by first | exact Chg.refl _ _ | assumption⟩
            apply DQ.step (E' := [(45, _), (37, _)])
            case ho => rfl
            case hs => exact ⟨rfl, rfl, trivial⟩
            case hk => rfl
            case h1 =>
              intro wq_28 kq_28
              have zs_kq_28 := kq_28.size
              replace hc := hc.pure kq_28
              replace hb := hb.pure kq_28
              replace hw := hw.pure kq_28
              refine WL.passU rfl rfl rfl (WL.nil (?_))
              exact WX.one ⟨rfl, by first | exact Chg.refl _ _ | assumption⟩
            apply DQ.step (E' := [(41, _), (46, _), (37, _)])
            case ho => rfl
            case hs => exact ⟨rfl, rfl, rfl, trivial⟩
            case hk => rfl
            case h1 =>
              intro wq_29 kq_29
              refine WL.passU rfl rfl rfl (WL.nil (?_))
              exact WX.one ⟨rfl, by first | exact Chg.refl _ _ | assumption⟩
            apply DQ.step (E' := [(37, _), (47, _), (34, _)])
            case ho => rfl
            case hs => exact ⟨rfl, rfl, rfl, trivial⟩
            case hk => rfl
            case h1 =>
              intro wq_30 kq_30
              refine WL.pass rfl rfl rfl rfl (WL.nil (?_))
              exact WX.one ⟨rfl, by first | exact Chg.refl _ _ | assumption⟩
            apply DQ.step (E' := [(34, _), (48, _)])
            case ho => rfl
            case hs => exact ⟨rfl, rfl, trivial⟩
            case hk => rfl
            case h1 =>
              intro wq_31 kq_31
              refine WL.pickT rfl rfl rfl (?_)
              refine WL.nil ?_
              exact WX.one ⟨rfl, by first | exact Chg.refl _ _ | assumption⟩
            refine DQ.done (fun _ => ?_)
            refine DL.done (fun we_32 ke_32 => ?_)
            have zs_ke_32 := ke_32.size
            replace hc := hc.pure ke_32
            replace hb := hb.pure ke_32
            replace hw := hw.pure ke_32
            refine WX.then_normal (WC.cond_true rfl (WC.seq (WC.region (WL.assign rfl rfl (WL.nil (WX.then_normal (WC.ret (?_))))))))
            refine WX.block_ret (WX.then_ret (WX.then_ret (WX.block_ret (WX.then_ret (?_)))))
            refine WX.ret1 (.inl rfl) Try.results33 rfl ?_
            first
              | (refine ⟨_, rfl, ?_, hw⟩
                 rw [errB_shape (by omega)])
              | (refine ⟨_, rfl, ?_, hw⟩
                 rw [errB_bad (by rw [hxl]; exact OkBad.no hbi (by omega))])
              | (refine ⟨_, rfl, ?_, hw⟩
                 rw [errB_bad (by rw [hxl]; exact OkBad.no2 hbi (hd0 (by omega)) (by omega) (by omega))])
              | (refine ⟨_, rfl, ?_, hw⟩
                 rw [errB_len (by omega)])
              | (refine ⟨_, rfl, ?_, hw⟩
                 rw [errB_ok (by omega) hok (by omega), if_neg (show ¬ bad.length ≤ 3 by omega)])
              | (refine ⟨_, rfl, ?_, hw⟩
                 rw [errB_ok (by omega) hok (by omega), if_pos (show bad.length ≤ 3 by omega)])
          case hf =>
            intro h32
            replace h32 := of_decide_eq_false h32
            apply DQ.step (E' := [(25, _), (32, _)])
            case ho => rfl
            case hs => exact ⟨rfl, rfl, trivial⟩
            case hk => rfl
            case h1 =>
              intro wq_15 kq_15
              refine WL.pickF rfl rfl rfl (?_)
              refine WL.nil ?_
              exact WX.one ⟨rfl, by first | exact Chg.refl _ _ | assumption⟩
            apply DQ.step (E' := [(33, _)])
            case ho => rfl
            case hs => exact ⟨rfl, trivial⟩
            case hk => rfl
            case h1 =>
              intro wq_16 kq_16
              refine WL.move rfl rfl (?_)
              refine WL.nil ?_
              exact WX.one ⟨rfl, by first | exact Chg.refl _ _ | assumption⟩
            apply DQ.step (E' := [(5, _), (34, _)])
            case ho => rfl
            case hs => exact ⟨rfl, rfl, trivial⟩
            case hk => rfl
            case h1 =>
              intro wq_17 kq_17
              refine WL.want rfl rfl rfl (WL.move rfl rfl (?_))
              refine WL.nil ?_
              exact WX.one ⟨rfl, by first | exact Chg.refl _ _ | assumption⟩
            apply DQ.split (E' := [(35, _), (34, _)])
            case ho => rfl
            case hs => exact ⟨rfl, rfl, trivial⟩
            case hk => rfl
            case h1 =>
              intro wq_18 kq_18
              refine WL.want rfl rfl rfl (?_)
              refine WL.gtr rfl rfl rfl ?_
              refine WL.nil ?_
              exact WX.one ⟨rfl, by first | exact Chg.refl _ _ | assumption⟩
            case ht =>
              intro h36
              replace h36 := of_decide_eq_true h36
              apply DQ.step (E' := [(36, _), (34, _)])
              case ho => rfl
              case hs => exact ⟨rfl, rfl, trivial⟩
              case hk => rfl
              case h1 =>
                intro wq_19 kq_19
                refine WL.want rfl rfl rfl (WL.move rfl rfl (?_))
                refine WL.nil ?_
                exact WX.one ⟨rfl, by first | exact Chg.refl _ _ | assumption⟩
              apply DQ.step (E' := [(1, _), (37, _)])
              case ho => rfl
              case hs => exact ⟨rfl, rfl, trivial⟩
              case hk => rfl
              case h1 =>
                intro wq_20 kq_20
                refine WL.want rfl rfl rfl (WL.move rfl rfl (?_))
                refine WL.nil ?_
                exact WX.one ⟨rfl, by first | exact Chg.refl _ _ | assumption⟩
              apply DQ.step (E' := [(5, _), (37, _)])
              case ho => rfl
              case hs => exact ⟨rfl, rfl, trivial⟩
              case hk => rfl
              case h1 =>
                intro wq_21 kq_21
                refine WL.want rfl rfl rfl (WL.move rfl rfl (?_))
                refine WL.nil ?_
                exact WX.one ⟨rfl, by first | exact Chg.refl _ _ | assumption⟩
              apply DQ.step (E' := [(38, _), (39, _), (37, _)])
              case ho => rfl
              case hs => exact ⟨rfl, rfl, rfl, trivial⟩
              case hk => rfl
              case h1 =>
                intro wq_22 kq_22
                have zs_kq_22 := kq_22.size
                replace hc := hc.pure kq_22
                replace hb := hb.pure kq_22
                replace hw := hw.pure kq_22
                refine WL.want rfl rfl rfl (?_)
                refine WL.indexC hb Try.underlying33 Try.sizeOf3 rfl rfl ⟨hbi, rfl⟩ rfl ?_
                refine WL.nil ?_
                exact WX.one ⟨rfl, by first | exact Chg.refl _ _ | assumption⟩
              apply DQ.step (E' := [(40, _), (37, _)])
              case ho => rfl
              case hs => exact ⟨rfl, rfl, trivial⟩
              case hk => rfl
              case h1 =>
                intro wq_23 kq_23
                have zs_kq_23 := kq_23.size
                replace hc := hc.pure kq_23
                replace hb := hb.pure kq_23
                replace hw := hw.pure kq_23
                refine WL.want rfl rfl rfl (WL.load Try.isAgg3 rfl ((hb.cellsAt hbi) 0 _ rfl) rfl (?_))
                refine WL.nil ?_
                exact WX.one ⟨rfl, by first | exact Chg.refl _ _ | assumption⟩
              apply DQ.step (E' := [(1, _), (37, _)])
              case ho => rfl
              case hs => exact ⟨rfl, rfl, trivial⟩
              case hk => rfl
              case h1 =>
                intro wq_24 kq_24
                refine WL.want rfl rfl rfl (WL.move rfl rfl (?_))
                refine WL.nil ?_
                exact WX.one ⟨rfl, by first | exact Chg.refl _ _ | assumption⟩
              apply DQ.step (E' := [(5, _), (37, _)])
              case ho => rfl
              case hs => exact ⟨rfl, rfl, trivial⟩
              case hk => rfl
              case h1 =>
                intro wq_25 kq_25
                refine WL.want rfl rfl rfl (WL.move rfl rfl (?_))
                refine WL.nil ?_
                exact WX.one ⟨rfl, by first | exact Chg.refl _ _ | assumption⟩
              apply DQ.step (E' := [(43, _), (37, _)])
              case ho => rfl
              case hs => exact ⟨rfl, rfl, trivial⟩
              case hk => rfl
              case h1 =>
                intro wq_26 kq_26
                refine WL.want rfl rfl rfl (?_)
                refine WL.sub64 rfl rfl (by constructor <;> omega) rfl ?_
                rw [show ((i : Int) - 1) = ((i - 1 : Nat) : Int) from by omega]
                refine WL.nil ?_
                exact WX.one ⟨rfl, by first | exact Chg.refl _ _ | assumption⟩
              apply DQ.step (E' := [(42, _), (44, _), (37, _)])
              case ho => rfl
              case hs => exact ⟨rfl, rfl, rfl, trivial⟩
              case hk => rfl
              case h1 =>
                intro wq_27 kq_27
                have zs_kq_27 := kq_27.size
                replace hc := hc.pure kq_27
                replace hb := hb.pure kq_27
                replace hw := hw.pure kq_27
                refine WL.want rfl rfl rfl (?_)
                refine WL.indexC hb Try.underlying33 Try.sizeOf3 rfl rfl ⟨hd0 (by omega), rfl⟩ rfl ?_
                refine WL.nil ?_
                exact WX.one ⟨rfl, by first | exact Chg.refl _ _ | assumption⟩
              apply DQ.step (E' := [(45, _), (37, _)])
              case ho => rfl
              case hs => exact ⟨rfl, rfl, trivial⟩
              case hk => rfl
              case h1 =>
                intro wq_28 kq_28
                have zs_kq_28 := kq_28.size
                replace hc := hc.pure kq_28
                replace hb := hb.pure kq_28
                replace hw := hw.pure kq_28
                refine WL.want rfl rfl rfl (?_)
                refine WL.load Try.isAgg3 rfl ((hb.cellsAt (hd0 (by omega))) 0 _ rfl) rfl ?_
                refine WL.nil ?_
                exact WX.one ⟨rfl, by first | exact Chg.refl _ _ | assumption⟩
              apply DQ.split (E' := [(41, _), (46, _), (37, _)])
              case ho => rfl
              case hs => exact ⟨rfl, rfl, rfl, trivial⟩
              case hk => rfl
              case h1 =>
                intro wq_29 kq_29
                refine WL.want rfl rfl rfl (?_)
                refine WL.leq rfl rfl rfl ?_
                refine WL.nil ?_
                exact WX.one ⟨rfl, by first | exact Chg.refl _ _ | assumption⟩
              case ht =>
                intro h47
                replace h47 := of_decide_eq_true h47
                apply DQ.step (E' := [(37, _), (47, _), (34, _)])
                case ho => rfl
                case hs => exact ⟨rfl, rfl, rfl, trivial⟩
                case hk => rfl
                case h1 =>
                  intro wq_30 kq_30
                  refine WL.want rfl rfl rfl (WL.pickT rfl rfl rfl (?_))
                  refine WL.nil ?_
                  exact WX.one ⟨rfl, by first | exact Chg.refl _ _ | assumption⟩
                apply DQ.step (E' := [(34, _), (48, _)])
                case ho => rfl
                case hs => exact ⟨rfl, rfl, trivial⟩
                case hk => rfl
                case h1 =>
                  intro wq_31 kq_31
                  refine WL.pickF rfl rfl rfl (?_)
                  refine WL.nil ?_
                  exact WX.one ⟨rfl, by first | exact Chg.refl _ _ | assumption⟩
                refine DQ.done (fun _ => ?_)
                refine DL.done (fun we_32 ke_32 => ?_)
                have zs_ke_32 := ke_32.size
                replace hc := hc.pure ke_32
                replace hb := hb.pure ke_32
                replace hw := hw.pure ke_32
                refine WX.then_normal (WC.cond_true rfl (WC.seq (WC.region (WL.assign rfl rfl (WL.nil (WX.then_normal (WC.ret (?_))))))))
                refine WX.block_ret (WX.then_ret (WX.then_ret (WX.block_ret (WX.then_ret (?_)))))
                refine WX.ret1 (.inl rfl) Try.results33 rfl ?_
                first
                  | (refine ⟨_, rfl, ?_, hw⟩
                     rw [errB_shape (by omega)])
                  | (refine ⟨_, rfl, ?_, hw⟩
                     rw [errB_bad (by rw [hxl]; exact OkBad.no hbi (by omega))])
                  | (refine ⟨_, rfl, ?_, hw⟩
                     rw [errB_bad (by rw [hxl]; exact OkBad.no2 hbi (hd0 (by omega)) (by omega) (by omega))])
                  | (refine ⟨_, rfl, ?_, hw⟩
                     rw [errB_len (by omega)])
                  | (refine ⟨_, rfl, ?_, hw⟩
                     rw [errB_ok (by omega) hok (by omega), if_neg (show ¬ bad.length ≤ 3 by omega)])
                  | (refine ⟨_, rfl, ?_, hw⟩
                     rw [errB_ok (by omega) hok (by omega), if_pos (show bad.length ≤ 3 by omega)])
              case hf =>
                intro h47
                replace h47 := of_decide_eq_false h47
                apply DQ.step (E' := [(37, _), (47, _), (34, _)])
                case ho => rfl
                case hs => exact ⟨rfl, rfl, rfl, trivial⟩
                case hk => rfl
                case h1 =>
                  intro wq_30 kq_30
                  refine WL.want rfl rfl rfl (WL.pickT rfl rfl rfl (?_))
                  refine WL.nil ?_
                  exact WX.one ⟨rfl, by first | exact Chg.refl _ _ | assumption⟩
                apply DQ.step (E' := [(34, _), (48, _)])
                case ho => rfl
                case hs => exact ⟨rfl, rfl, trivial⟩
                case hk => rfl
                case h1 =>
                  intro wq_31 kq_31
                  refine WL.pickF rfl rfl rfl (?_)
                  refine WL.nil ?_
                  exact WX.one ⟨rfl, by first | exact Chg.refl _ _ | assumption⟩
                refine DQ.done (fun _ => ?_)
                refine DL.done (fun we_32 ke_32 => ?_)
                have zs_ke_32 := ke_32.size
                replace hc := hc.pure ke_32
                replace hb := hb.pure ke_32
                replace hw := hw.pure ke_32
                refine WX.then_normal (WC.cond_false rfl (WC.skip (WX.block_normal (WX.then_normal (WC.region (WL.move rfl rfl (WL.add64 rfl rfl (by first | omega | (constructor <;> omega)) rfl (?_))))))))
                refine WL.assign rfl rfl (WL.nil (?_))
                exact WX.loop_next (i + 1) ⟨rfl, rfl, rfl, trivial⟩ ⟨by omega, hI.next hbi ⟨by omega, by omega⟩ (fun c' h1 h2 => by first | (rw [hd0 h1] at h2; injection h2; omega) | omega), hc, hb, hw⟩ (by show bad.length - (i + 1) < bad.length - i; omega)
            case hf =>
              intro h36
              replace h36 := of_decide_eq_false h36
              apply DQ.step (E' := [(36, _), (34, _)])
              case ho => rfl
              case hs => exact ⟨rfl, rfl, trivial⟩
              case hk => rfl
              case h1 =>
                intro wq_19 kq_19
                refine WL.want rfl rfl rfl (WL.move rfl rfl (?_))
                refine WL.nil ?_
                exact WX.one ⟨rfl, by first | exact Chg.refl _ _ | assumption⟩
              apply DQ.step (E' := [(1, _), (37, _)])
              case ho => rfl
              case hs => exact ⟨rfl, rfl, trivial⟩
              case hk => rfl
              case h1 =>
                intro wq_20 kq_20
                refine WL.pass rfl rfl rfl rfl (WL.nil (?_))
                exact WX.one ⟨rfl, by first | exact Chg.refl _ _ | assumption⟩
              apply DQ.step (E' := [(5, _), (37, _)])
              case ho => rfl
              case hs => exact ⟨rfl, rfl, trivial⟩
              case hk => rfl
              case h1 =>
                intro wq_21 kq_21
                refine WL.pass rfl rfl rfl rfl (WL.nil (?_))
                exact WX.one ⟨rfl, by first | exact Chg.refl _ _ | assumption⟩
              apply DQ.step (E' := [(38, _), (39, _), (37, _)])
              case ho => rfl
              case hs => exact ⟨rfl, rfl, rfl, trivial⟩
              case hk => rfl
              case h1 =>
                intro wq_22 kq_22
                have zs_kq_22 := kq_22.size
                replace hc := hc.pure kq_22
                replace hb := hb.pure kq_22
                replace hw := hw.pure kq_22
                refine WL.pass rfl rfl rfl rfl (WL.nil (?_))
                exact WX.one ⟨rfl, by first | exact Chg.refl _ _ | assumption⟩
              apply DQ.step (E' := [(40, _), (37, _)])
              case ho => rfl
              case hs => exact ⟨rfl, rfl, trivial⟩
              case hk => rfl
              case h1 =>
                intro wq_23 kq_23
                have zs_kq_23 := kq_23.size
                replace hc := hc.pure kq_23
                replace hb := hb.pure kq_23
                replace hw := hw.pure kq_23
                refine WL.pass rfl rfl rfl rfl (WL.nil (?_))
                exact WX.one ⟨rfl, by first | exact Chg.refl _ _ | assumption⟩
              apply DQ.step (E' := [(1, _), (37, _)])
              case ho => rfl
              case hs => exact ⟨rfl, rfl, trivial⟩
              case hk => rfl
              case h1 =>
                intro wq_24 kq_24
                refine WL.pass rfl rfl rfl rfl (WL.nil (?_))
                exact WX.one ⟨rfl, by first | exact Chg.refl _ _ | assumption⟩
              apply DQ.step (E' := [(5, _), (37, _)])
              case ho => rfl
              case hs => exact ⟨rfl, rfl, trivial⟩
              case hk => rfl
              case h1 =>
                intro wq_25 kq_25
                refine WL.pass rfl rfl rfl rfl (WL.nil (?_))
                exact WX.one ⟨rfl, by first | exact Chg.refl _ _ | assumption⟩
              apply DQ.step (E' := [(43, _), (37, _)])
              case ho => rfl
              case hs => exact ⟨rfl, rfl, trivial⟩
              case hk => rfl
              case h1 =>
                intro wq_26 kq_26
                refine WL.pass rfl rfl rfl rfl (WL.nil (?_))
                exact WX.one ⟨rfl, by first | exact Chg.refl _ _ | assumption⟩
              apply DQ.step (E' := [(42, _), (44, _), (37, _)])
              case ho => rfl
              case hs => exact ⟨rfl, rfl, rfl, trivial⟩
              case hk => rfl
              case h1 =>
                intro wq_27 kq_27
                have zs_kq_27 := kq_27.size
                replace hc := hc.pure kq_27
                replace hb := hb.pure kq_27
                replace hw := hw.pure kq_27
                refine WL.pass rfl rfl rfl rfl (WL.nil (?_))
                exact WX.one ⟨rfl, by first | exact Chg.refl _ _ | assumption⟩
              apply DQ.step (E' := [(45, _), (37, _)])
              case ho => rfl
              case hs => exact ⟨rfl, rfl, trivial⟩
              case hk => rfl
              case h1 =>
                intro wq_28 kq_28
                have zs_kq_28 := kq_28.size
                replace hc := hc.pure kq_28
                replace hb := hb.pure kq_28
                replace hw := hw.pure kq_28
                refine WL.pass rfl rfl rfl rfl (WL.nil (?_))
                exact WX.one ⟨rfl, by first | exact Chg.refl _ _ | assumption⟩
              apply DQ.step (E' := [(41, _), (46, _), (37, _)])
              case ho => rfl
              case hs => exact ⟨rfl, rfl, rfl, trivial⟩
              case hk => rfl
              case h1 =>
                intro wq_29 kq_29
                refine WL.pass rfl rfl rfl rfl (WL.nil (?_))
                exact WX.one ⟨rfl, by first | exact Chg.refl _ _ | assumption⟩
              apply DQ.step (E' := [(37, _), (47, _), (34, _)])
              case ho => rfl
              case hs => exact ⟨rfl, rfl, rfl, trivial⟩
              case hk => rfl
              case h1 =>
                intro wq_30 kq_30
                refine WL.want rfl rfl rfl (WL.pickF rfl rfl rfl (?_))
                refine WL.nil ?_
                exact WX.one ⟨rfl, by first | exact Chg.refl _ _ | assumption⟩
              apply DQ.step (E' := [(34, _), (48, _)])
              case ho => rfl
              case hs => exact ⟨rfl, rfl, trivial⟩
              case hk => rfl
              case h1 =>
                intro wq_31 kq_31
                refine WL.pickF rfl rfl rfl (?_)
                refine WL.nil ?_
                exact WX.one ⟨rfl, by first | exact Chg.refl _ _ | assumption⟩
              refine DQ.done (fun _ => ?_)
              refine DL.done (fun we_32 ke_32 => ?_)
              have zs_ke_32 := ke_32.size
              replace hc := hc.pure ke_32
              replace hb := hb.pure ke_32
              replace hw := hw.pure ke_32
              refine WX.then_normal (WC.cond_false rfl (WC.skip (WX.block_normal (WX.then_normal (WC.region (WL.move rfl rfl (WL.add64 rfl rfl (by first | omega | (constructor <;> omega)) rfl (?_))))))))
              refine WL.assign rfl rfl (WL.nil (?_))
              exact WX.loop_next (i + 1) ⟨rfl, rfl, rfl, trivial⟩ ⟨by omega, hI.next hbi ⟨by omega, by omega⟩ (fun c' h1 h2 => by first | (rw [hd0 h1] at h2; injection h2; omega) | omega), hc, hb, hw⟩ (by show bad.length - (i + 1) < bad.length - i; omega)
      ·
        refine WL.nil (WX.then_normal (WC.cond_false rfl (WC.exit (WX.then_exit (WX.then_exit (WX.block_here (WX.then_normal (?_))))))))
        refine WC.seq (WC.seq (WC.region (WL.move rfl rfl (WL.move rfl rfl (?_)))))
        have hok : OkBad (xss rs).length bad := by rw [hxl]; exact hI.done (by omega)
        refine WL.call eg_34 rfl rfl (even_calls2 hc hb hl hbl) ?_
        rintro v w1 ⟨rfl, k⟩
        have zs_k := k.size
        replace hc := hc.pure k
        replace hb := hb.pure k
        replace hw := hw.pure k
        refine WL.lss? rfl rfl rfl (fun h53 => ?_) (fun h53 => ?_)
        ·
          refine WL.nil (WX.then_normal (WC.cond_true rfl (WC.seq (WC.region (WL.assign rfl rfl (WL.nil (WX.then_normal (?_))))))))
          refine WC.ret (WX.then_ret (?_))
          refine WX.ret1 (.inl rfl) Try.results33 rfl ?_
          first
            | (refine ⟨_, rfl, ?_, hw⟩
               rw [errB_shape (by omega)])
            | (refine ⟨_, rfl, ?_, hw⟩
               rw [errB_bad (by rw [hxl]; exact OkBad.no hbi (by omega))])
            | (refine ⟨_, rfl, ?_, hw⟩
               rw [errB_bad (by rw [hxl]; exact OkBad.no2 hbi (hd0 (by omega)) (by omega) (by omega))])
            | (refine ⟨_, rfl, ?_, hw⟩
               rw [errB_len (by omega)])
            | (refine ⟨_, rfl, ?_, hw⟩
               rw [errB_ok (by omega) hok (by omega), if_neg (show ¬ bad.length ≤ 3 by omega)])
            | (refine ⟨_, rfl, ?_, hw⟩
               rw [errB_ok (by omega) hok (by omega), if_pos (show bad.length ≤ 3 by omega)])
        ·
          refine WL.nil (WX.then_normal (WC.cond_false rfl (WC.skip (WX.then_normal (WC.seq (WC.seq (WC.region (?_))))))))
          refine WL.move rfl rfl (WL.len Try.underlying33 rfl rfl (?_))
          refine WL.gtr? rfl rfl rfl (fun h56 => ?_) (fun h56 => ?_)
          ·
            refine WL.nil (WX.then_normal (WC.cond_true rfl (WC.seq (WC.region (WL.assign rfl rfl (WL.nil (WX.then_normal (?_))))))))
            refine WC.ret (WX.then_ret (?_))
            refine WX.ret1 (.inl rfl) Try.results33 rfl ?_
            first
              | (refine ⟨_, rfl, ?_, hw⟩
                 rw [errB_shape (by omega)])
              | (refine ⟨_, rfl, ?_, hw⟩
                 rw [errB_bad (by rw [hxl]; exact OkBad.no hbi (by omega))])
              | (refine ⟨_, rfl, ?_, hw⟩
                 rw [errB_bad (by rw [hxl]; exact OkBad.no2 hbi (hd0 (by omega)) (by omega) (by omega))])
              | (refine ⟨_, rfl, ?_, hw⟩
                 rw [errB_len (by omega)])
              | (refine ⟨_, rfl, ?_, hw⟩
                 rw [errB_ok (by omega) hok (by omega), if_neg (show ¬ bad.length ≤ 3 by omega)])
              | (refine ⟨_, rfl, ?_, hw⟩
                 rw [errB_ok (by omega) hok (by omega), if_pos (show bad.length ≤ 3 by omega)])
          ·
            refine WL.nil (WX.then_normal (WC.cond_false rfl (WC.skip (WX.then_normal (WC.seq (WC.region (WL.assign rfl rfl (?_))))))))
            refine WL.nil (WX.then_normal (WC.ret (?_)))
            refine WX.ret1 (.inl rfl) Try.results33 rfl ?_
            first
              | (refine ⟨_, rfl, ?_, hw⟩
                 rw [errB_shape (by omega)])
              | (refine ⟨_, rfl, ?_, hw⟩
                 rw [errB_bad (by rw [hxl]; exact OkBad.no hbi (by omega))])
              | (refine ⟨_, rfl, ?_, hw⟩
                 rw [errB_bad (by rw [hxl]; exact OkBad.no2 hbi (hd0 (by omega)) (by omega) (by omega))])
              | (refine ⟨_, rfl, ?_, hw⟩
                 rw [errB_len (by omega)])
              | (refine ⟨_, rfl, ?_, hw⟩
                 rw [errB_ok (by omega) hok (by omega), if_neg (show ¬ bad.length ≤ 3 by omega)])
              | (refine ⟨_, rfl, ?_, hw⟩
                 rw [errB_ok (by omega) hok (by omega), if_pos (show bad.length ≤ 3 by omega)])
end Go.Proofs.Ytjdbjdgobhjbkaa
namespace Go.HL
open Go.RowKit
/-! regions that draw their order, the loud operations in any order that the edges allow -/
def preds (ops : Array Oper) (rs : List Nat) (i : Nat) : Bool := rs.any fun j => before? ops j i
def AllB : List Nat → (Nat → Bool) → (Nat → Prop) → Prop
  | [], _, _ => True
  | a :: l, p, f => (bif p a then True else f a) ∧ AllB l p f
theorem AllB_mem : ∀ {l : List Nat} {p : Nat → Bool} {f : Nat → Prop}, AllB l p f → ∀ i ∈ l, p i = false → f i
  | [], _, _, _, i, hi, _ => by cases hi
  | a :: l, p, f, h, i, hi, hp => by
    rcases List.mem_cons.1 hi with rfl | h1
    · have := h.1
      rw [hp] at this
      exact this
    · exact AllB_mem h.2 i h1 hp
def drawOkT (ops : Array Oper) (C R : List Nat) : Bool :=
  ((List.range ops.size).all fun i => C.contains i || R.contains i) && ((C ++ R).all fun i => decide (i < ops.size)) &&
  ((List.range ops.size).all fun i => (List.range ops.size).all fun j => i == j || dstOf ops i == none || dstOf ops i != dstOf ops j) &&
  ((List.range ops.size).all fun i => ((ops[i]?).map (·.after.toList.all fun e => !Region.binds .any e || decide (e.on < i))).getD true) &&
  srcOk ops [] (C ++ R) && (R.all fun i => (List.range ops.size).all fun j => (looks ops i).all fun t => dstOf ops j != some t || (if C.contains j then before? ops j i else before? ops j i || before? ops i j)) && nodupB (C ++ R)
section
variable (P : Program) (ops : Array Oper) (Q : Exit → Act → World → Prop) (N : Nat) (K : World → Prop) (w0 : World)
def DT : Nat → List Nat → Env → World → Prop
  | 0, _, E, w => ∀ w', Chg Nob w w' → WX Q .normal N E w'
  | n + 1, rs, E, w => AllB rs (preds ops rs) fun i => ∀ w', Chg Nob w w' → ∀ o, ops[i]? = some o → WL P ops (One o.dst fun v w'' => K w'' ∧ DT n (rs.erase i) (putE E o.dst v) w'') N [o] (restr ops i E) w'
def DQT (R : List Nat) : List Nat → Env → Prop
  | [], E => DT P ops Q N K R.length R E w0
  | i :: is, E => ∃ v, (∀ o, ops[i]? = some o → ∀ w', K w' → WL P ops (One o.dst fun u w'' => u = v ∧ Chg Nob w' w'') N [o] (restr ops i E) w') ∧ DQT R is (putE E (dstOf ops i) v)
end
section
variable {P : Program} {ops : Array Oper} {Q : Exit → Act → World → Prop} {N : Nat} {K : World → Prop} {w0 : World} {E0 : Env}
theorem DQT_spec {R : List Nat} : ∀ {is : List Nat} {E : Env}, is.Nodup → DQT P ops Q N K w0 R is E → ∃ c : Nat → Value, DT P ops Q N K R.length R (envAfter ops c is E) w0 ∧
    ∀ pre i post, is = pre ++ i :: post → ∀ o, ops[i]? = some o → ∀ w', K w' → WL P ops (One o.dst fun u w'' => u = c i ∧ Chg Nob w' w'') N [o] (restr ops i (envAfter ops c pre E)) w'
  | [], E, _, h => ⟨fun _ => undef, h, fun pre i post hx => by cases pre <;> cases hx⟩
  | i :: is, E, hn, h => by
    obtain ⟨v, h1, h2⟩ := h
    obtain ⟨c, h3, h4⟩ := DQT_spec (List.nodup_cons.1 hn).2 h2
    have hi := (List.nodup_cons.1 hn).1
    let c' : Nat → Value := fun j => if j = i then v else c j
    have hc : ∀ j, j ∈ is → c j = c' j := fun j hj => by
      have : j ≠ i := fun e => hi (e ▸ hj)
      simp [c', this]
    have hci : c' i = v := by simp [c']
    refine ⟨c', ?_, ?_⟩
    · show DT P ops Q N K R.length R (envAfter ops c' is (putE E (dstOf ops i) (c' i))) w0
      rw [hci, ← envAfter_congr ops c c' is _ hc]
      exact h3
    · intro pre j post hx o ho w' hw
      cases pre with
      | nil =>
        injection hx with hx1 hx2
        subst hx1
        rw [hci]
        exact h1 o ho w' hw
      | cons p pre =>
        injection hx with hx1 hx2
        subst hx1
        have := h4 pre j post hx2 o ho w' hw
        have hj : j ∈ is := by rw [hx2]; simp
        rw [hc j hj, envAfter_congr ops c c' pre _ (fun k hk => hc k (by rw [hx2]; simp [hk]))] at this
        show WL P ops _ N [o] (restr ops j (envAfter ops c' pre (putE E (dstOf ops i) (c' i)))) w'
        rw [hci]
        exact this

theorem WC.drawT {id : Nat} (K : World → World → Prop) (C R : List Nat) (hm : P.follows .mixedOrders = true) (hok : drawOkT ops C R = true) (hN : ((List.range ops.size).all fun i => (dstOf ops i).all fun t => Nat.blt t N) = true) {w : World} (hK0 : K w.drew w.drew) (hKp : ∀ wd a b, K wd a → Chg Nob a b → K wd b)
    (h0 : ∀ wd, Chg Nob w wd → wd.heap.size = w.heap.size → DQT P ops Q N (K wd) wd R C E0) : WC P (.region id ops true) Q N E0 w := fun a0 ha0 => by
  have h := h0 w.drew (Chg.drew w) rfl
  simp only [drawOkT, Bool.and_eq_true, decide_eq_true_eq] at hok
  obtain ⟨⟨⟨⟨⟨⟨hpart, hlt0⟩, hdst0⟩, hback0⟩, hsrc⟩, hsrcT⟩, hnd⟩ := hok
  replace hnd := nodupB_spec hnd
  have hlt : ∀ k ∈ C ++ R, k < ops.size := fun k hk => by simpa using List.all_eq_true.1 hlt0 k hk
  have hdst : ∀ i j, i < ops.size → j < ops.size → i ≠ j → ∀ t, dstOf ops i = some t → dstOf ops j ≠ some t := by
    intro i j hi hj hne t h1 h2
    have := List.all_eq_true.1 (List.all_eq_true.1 hdst0 i (by simpa using hi)) j (by simpa using hj)
    simp [h1, h2, hne] at this
  have hback : ∀ i, i < ops.size → ∀ o, ops[i]? = some o → ∀ e ∈ o.after, Region.binds .any e = true → e.on < i := by
    intro i hi o ho e he hb
    have := List.all_eq_true.1 hback0 i (by simpa using hi)
    simp only [ho, Option.map_some, Option.getD_some] at this
    rw [List.all_eq_true] at this
    have := this e (by simpa using he)
    simpa [hb] using this
  have hNt : ∀ i, i < ops.size → ∀ t, dstOf ops i = some t → t < N := by
    intro i hi t ht
    have := List.all_eq_true.1 hN i (by simpa using hi)
    simpa [ht] using this
  have hin : ∀ i, i < ops.size → i ∈ C ∨ i ∈ R := fun i hi => by simpa using List.all_eq_true.1 hpart i (by simpa using hi)
  have hCn : C.Nodup := (List.nodup_append.1 hnd).1
  obtain ⟨c, hDL, hq⟩ := DQT_spec hCn h
  have hgs : ∀ (listed : Array Bool) (i j : Nat), i < listed.size → (listed.setIfInBounds i true).getD j false = if j = i then true else listed.getD j false := by
    intro listed i j hil
    simp only [Array.getD_eq_getD_getElem?, Array.getElem?_setIfInBounds]
    by_cases e : j = i
    · subst e; simp [hil]
    · have : ¬ i = j := fun x => e x.symm
      simp [this, e]
  have henv : ∀ (vals : Nat → Value) (rd : List Nat), (∀ i ∈ C, vals i = c i) → envAfter ops vals rd (envAfter ops c C E0) = envAfter ops vals (C ++ rd) E0 := by
    intro vals rd hC
    rw [envAfter_append, envAfter_congr ops vals c C E0 hC]
  have fin : ∀ (listed : Array Bool) (a : Act) (w1 wp : World) (vals : Nat → Value) (rd rs : List Nat), (∀ i, i < ops.size → i ∈ C ∨ i ∈ rd ∨ i ∈ rs) → (∀ i ∈ rd ++ rs, i < ops.size) → Mid ops N E0 listed a vals → (∀ i ∈ C, vals i = c i) → (∀ i ∈ rs, listed.getD i false = false) →
      Chg Nob wp w1 → DT P ops Q N (K w.drew) rs.length rs (envAfter ops vals rd (envAfter ops c C E0)) wp → (∀ i, i < ops.size → listed.getD i false = true) → Q .normal a w1 := by
    intro listed a w1 wp vals rd rs hpt hrl m hC hrs hpw hdl hall
    cases rs with
    | cons r rs =>
      have h1 := hall r (hrl r (by simp))
      have h2 := hrs r (by simp)
      rw [h1] at h2; cases h2
    | nil =>
      refine hdl w1 hpw a ⟨m.tsz, m.dfs, fun t v ht => ?_⟩
      rw [henv vals rd hC] at ht
      rcases (Rep.start ops E0 vals).after (C ++ rd) t v ht with ⟨j, hj, hd, rfl⟩ | ⟨h1, h2⟩
      · have hjl : j < ops.size := by
          rcases List.mem_append.1 (by simpa using hj : j ∈ C ++ rd) with h | h
          · exact hlt j (by simp [h])
          · exact hrl j (by simp [h])
        exact m.done j hjl (hall j hjl) t hd
      · refine m.old t v h2 fun j hj _ => h1 j ?_
        rcases hpt j hj with h | h | h
        · simp [h]
        · simp [h]
        · cases h
  have key : ∀ (fuel : Nat) (listed : Array Bool) (a : Act) (w1 wp : World) (vals : Nat → Value) (rd rs : List Nat), (∀ i, i < ops.size → i ∈ C ∨ i ∈ rd ∨ i ∈ rs) → (∀ i ∈ rd ++ rs, i < ops.size ∧ i ∉ C) → rs.Nodup → (∀ i ∈ rd, i ∉ rs) → Mid ops N E0 listed a vals → (∀ i ∈ C, vals i = c i) → (∀ i ∈ rd, listed.getD i false = true) → (∀ i ∈ rs, listed.getD i false = false) →
      K w.drew w1 → Chg Nob wp w1 → DT P ops Q N (K w.drew) rs.length rs (envAfter ops vals rd (envAfter ops c C E0)) wp → ((List.range ops.size).filter fun i => !listed.getD i false).length ≤ fuel → wpAny P .any ops Q fuel listed a w1 := by
    intro fuel
    induction fuel with
    | zero =>
      intro listed a w1 wp vals rd rs hpt hrl hrn hdj m hC hrd hrs hM hpw hdl hf
      have hall : ∀ i, i < ops.size → listed.getD i false = true := by
        intro i hi
        have h0 := List.length_eq_zero_iff.1 (Nat.le_zero.1 hf)
        have : i ∉ (List.range ops.size).filter fun i => !listed.getD i false := by rw [h0]; simp
        simpa [hi] using this
      refine ⟨?_, fin listed a w1 wp vals rd rs hpt (fun i hi => (hrl i hi).1) m hC hrs hpw hdl hall⟩
      refine List.eq_nil_iff_forall_not_mem.2 fun i hi => ?_
      obtain ⟨h1, h2, _⟩ := mem_ready hi
      have h3 := hall i h1
      have : i < listed.size := by rw [m.sz]; exact h1
      simp [Array.getD_eq_getD_getElem?, this] at h2 h3
      rw [h2] at h3; cases h3
    | succ fuel ih =>
      intro listed a w1 wp vals rd rs hpt hrl hrn hdj m hC hrd hrs hM hpw hdl hf
      refine ⟨fun hnil => fin listed a w1 wp vals rd rs hpt (fun i hi => (hrl i hi).1) m hC hrs hpw hdl (ready_nil m.sz hback hnil), fun i hi => ?_⟩
      obtain ⟨hilt, hno, hpre⟩ := mem_ready hi
      have hil : i < listed.size := by rw [m.sz]; exact hilt
      have hno' : listed.getD i false = false := by
        simp [Array.getD_eq_getD_getElem?, hil] at hno ⊢; exact hno
      have ho : ops[i]? = some ops[i] := Array.getElem?_eq_getElem hilt
      have hdo := dstOf_eq ho
      have hf' : ((List.range ops.size).filter fun j => !(listed.setIfInBounds i true).getD j false).length ≤ fuel := by
        have e1 : ((List.range ops.size).filter fun j => !(listed.setIfInBounds i true).getD j false) = ((List.range ops.size).filter fun j => !listed.getD j false).filter fun j => j != i := by
          rw [List.filter_filter]
          congr 1
          funext j
          rw [hgs listed i j hil]
          by_cases e : j = i <;> simp [e]
        rw [e1]
        have : (((List.range ops.size).filter fun j => !listed.getD j false).filter fun j => j != i).length < ((List.range ops.size).filter fun j => !listed.getD j false).length := by
          rw [List.length_filter_lt_length_iff_exists]
          exact ⟨i, List.mem_filter.2 ⟨by simpa using hilt, by rw [hno']; rfl⟩, by simp⟩
        omega
      by_cases hiC : i ∈ C
      · obtain ⟨pre, post, hsp⟩ := List.append_of_mem hiC
        have h1 := hq pre i post hsp _ ho w1 hM
        have hpc : ∀ k ∈ pre, vals k = c k := fun k hk => hC k (by rw [hsp]; simp [hk])
        have hrep : Rep ops E0 vals pre (envAfter ops c pre E0) := by
          have := (Rep.start ops E0 vals).after pre
          rw [envAfter_congr ops vals c pre E0 hpc] at this
          simpa using this
        have hh := m.holds hsrc (pre := pre) (post := post ++ R) (i := i) (by rw [hsp]; simp) hlt hrep hpre hno
        refine wpOp_mono ?_ (wpOp_of_WL ho hh (fun t ht => hNt i hilt t (by rw [hdo]; exact ht)) h1)
        rintro a' w' ⟨v, rfl, rfl, k⟩
        rw [← hdo]
        have hv : ∀ j, (if j = i then c i else vals j) = vals j := fun j => by
          by_cases e : j = i
          · subst e; simp [hC j hiC]
          · simp [e]
        have hm' := m.put hilt hdst (hNt i hilt) hpre hno (c i)
        simp only [hv] at hm'
        refine ih _ _ w' wp vals rd rs hpt hrl hrn hdj hm' hC (fun j hj => ?_) (fun j hj => ?_) (hKp _ _ _ hM k) (hpw.pure k) hdl hf'
        · rw [hgs listed i j hil]; split
          · rfl
          · exact hrd j hj
        · have : j ≠ i := by rintro rfl; exact (hrl j (by simp [hj])).2 hiC
          rw [hgs listed i j hil, if_neg this]; exact hrs j hj
      · have hird : i ∉ rd := fun hx => by have := hrd i hx; rw [hno'] at this; cases this
        have hirs : i ∈ rs := (hpt i hilt).elim (fun h => absurd h hiC) (fun h => h.elim (fun h => absurd h hird) (fun h => h))
        have hpr : preds ops rs i = false := by
          rw [preds, List.any_eq_false]
          intro p hp hb
          have h1 := hpre p hb
          have h2 := hrs p hp
          rw [h1] at h2; cases h2
        obtain ⟨n, hn⟩ : ∃ n, rs.length = n + 1 := ⟨rs.length - 1, by have := List.length_pos_of_mem hirs; omega⟩
        rw [hn] at hdl
        have h1 := AllB_mem hdl i hirs hpr w1 hpw _ ho
        rw [henv vals rd hC] at h1
        have hrep : Rep ops E0 vals (C ++ rd) (envAfter ops vals (C ++ rd) E0) := by simpa using (Rep.start ops E0 vals).after (C ++ rd)
        have hh : Holds N (restr ops i (envAfter ops vals (C ++ rd) E0)) a := by
          have hsT : ∀ t ∈ looks ops i, ∀ j, j < ops.size → dstOf ops j = some t → (j ∈ C → before? ops j i = true) ∧ (before? ops j i = true ∨ before? ops i j = true) := by
            intro t ht j hj hd
            have q1 := List.all_eq_true.1 hsrcT i (by rcases hin i hilt with h | h; exact absurd h hiC; exact h)
            have q2 := List.all_eq_true.1 (List.all_eq_true.1 q1 j (by simpa using hj)) t ht
            simp only [hd, bne_self_eq_false, Bool.false_or] at q2
            by_cases hjC : C.contains j = true
            · rw [hjC] at q2
              simp at q2
              exact ⟨fun _ => q2, .inl q2⟩
            · simp only [Bool.not_eq_true] at hjC
              rw [hjC] at q2
              simp at q2
              exact ⟨fun h => by simp [h] at hjC, q2⟩
          refine ⟨m.tsz, m.dfs, fun t v ht => ?_⟩
          obtain ⟨g1, g2⟩ := restr_lookup ht
          rcases hrep t v g2 with ⟨j, hj, hd, rfl⟩ | ⟨g3, g4⟩
          · have hjl : j < ops.size := by
              rcases List.mem_append.1 (by simpa using hj : j ∈ C ++ rd) with h | h
              · exact hlt j (by simp [h])
              · exact (hrl j (by simp [h])).1
            have hb : before? ops j i = true := by
              rcases List.mem_append.1 (by simpa using hj : j ∈ C ++ rd) with h | h
              · exact (hsT t g1 j hjl hd).1 h
              · rcases (hsT t g1 j hjl hd).2 with h5 | h5
                · exact h5
                · have h6 := m.clo j hjl (hrd j h) i h5
                  rw [hno'] at h6; cases h6
            exact m.done j hjl (hpre j hb) t hd
          · refine m.old t v g4 fun j hj hl hd => ?_
            rcases hpt j hj with h | h | h
            · exact g3 j (by simp [h]) hd
            · exact g3 j (by simp [h]) hd
            · rw [hrs j h] at hl; cases hl
        refine wpOp_mono ?_ (wpOp_of_WL ho hh (fun t ht => hNt i hilt t (by rw [hdo]; exact ht)) h1)
        rintro a' w' ⟨v, rfl, hM', hdl'⟩
        have hm' := m.put hilt hdst (hNt i hilt) hpre hno v
        rw [← hdo]
        have hC' : ∀ j ∈ C, (if j = i then v else vals j) = c j := fun j hj => by
          have : j ≠ i := by rintro rfl; exact hiC hj
          rw [if_neg this]; exact hC j hj
        have hcr : ∀ j ∈ C ++ rd, vals j = (if j = i then v else vals j) := fun j hj => by
          have : j ≠ i := by rintro rfl; exact (List.mem_append.1 hj).elim hiC hird
          rw [if_neg this]
        have her : ∀ j, j ∈ rs.erase i ↔ j ≠ i ∧ j ∈ rs := fun j => List.Nodup.mem_erase_iff hrn
        refine ih _ _ w' w' (fun j => if j = i then v else vals j) (rd ++ [i]) (rs.erase i) (fun j hj => ?_) (fun j hj => ?_) (hrn.erase i) (fun j hj => ?_) hm' hC' (fun j hj => ?_) (fun j hj => ?_) hM' (Chg.refl _ _) ?_ hf'
        · rcases hpt j hj with h | h | h
          · exact .inl h
          · exact .inr (.inl (by simp [h]))
          · by_cases e : j = i
            · exact .inr (.inl (by simp [e]))
            · exact .inr (.inr ((her j).2 ⟨e, h⟩))
        · rcases List.mem_append.1 hj with h | h
          · rcases List.mem_append.1 h with h | h
            · exact hrl j (by simp [h])
            · have : j = i := by simpa using h
              subst this
              exact hrl j (by simp [hirs])
          · exact hrl j (by simp [((her j).1 h).2])
        · intro h
          have h5 := (her j).1 h
          rcases List.mem_append.1 hj with h6 | h6
          · exact hdj j h6 h5.2
          · exact h5.1 (by simpa using h6)
        · rw [hgs listed i j hil]; split
          · rfl
          · rename_i hne
            rcases List.mem_append.1 hj with hj | hj
            · exact hrd j hj
            · exact absurd (by simpa using hj) hne
        · have h5 := (her j).1 hj
          rw [hgs listed i j hil, if_neg h5.1]; exact hrs j h5.2
        · rw [henv _ (rd ++ [i]) hC', ← List.append_assoc, envAfter_append, ← envAfter_congr ops vals _ (C ++ rd) E0 hcr]
          simp only [envAfter, if_true]
          rw [hdo, List.length_erase_of_mem hirs, hn]
          exact hdl'
  refine wp_region_any hm ?_
  refine key ops.size _ a0 w.drew w.drew c [] R (fun i hi => (hin i hi).elim .inl (fun h => .inr (.inr h))) (fun i hi => ⟨hlt i (by simpa using Or.inr (by simpa using hi)), fun h => (List.nodup_append.1 hnd).2.2 i h i (by simpa using hi) rfl⟩) (List.nodup_append.1 hnd).2.1 (fun i h => by cases h) ?_ (fun _ _ => rfl) (fun _ h => by cases h) (fun i hi => ?_) hK0 (Chg.refl _ _) hDL ?_
  · refine ⟨by simp, ha0.size, ha0.defs, fun i hi hl => ?_, fun t v ht _ => ha0.env t v ht, fun i hi hl => ?_⟩
    · simp [Array.getD_eq_getD_getElem?, hi] at hl
    · simp [Array.getD_eq_getD_getElem?, hi] at hl
  · have hi' := hlt i (by simp [hi])
    simp [Array.getD_eq_getD_getElem?, hi']
  · refine Nat.le_trans (List.length_filter_le _ _) (by simp)
theorem WC.drawM {id : Nat} (M : Nat → Prop) (C R : List Nat) (hm : P.follows .mixedOrders = true) (hok : drawOkT ops C R = true) (hN : ((List.range ops.size).all fun i => (dstOf ops i).all fun t => Nat.blt t N) = true) {w : World}
    (h0 : ∀ wd, Chg Nob w wd → wd.heap.size = w.heap.size → DQT P ops Q N (Chg M wd) wd R C E0) : WC P (.region id ops true) Q N E0 w :=
  WC.drawT (fun wd => Chg M wd) C R hm hok hN (Chg.refl _ _) (fun _ _ _ h k => h.pure k) h0
end
section
variable {P : Program} {ops : Array Oper} {Q : Exit → Act → World → Prop} {N : Nat} {M : Nat → Prop} {K : World → Prop} {w0 w : World} {E E' : Env} {R is : List Nat} {i : Nat} {o : Oper}
theorem DQT.step {v : Value} (E' : Env) (ho : ops[i]? = some o) (hs : Sub E' E) (hk : (E'.all fun p => (looks ops i).contains p.1) = true)
    (h1 : ∀ w', K w' → WL P ops (One o.dst fun u w'' => u = v ∧ Chg Nob w' w'') N [o] E' w') (h2 : DQT P ops Q N K w0 R is (putE E o.dst v)) : DQT P ops Q N K w0 R (i :: is) E :=
  ⟨v, fun o' ho' w' hw => by rw [ho] at ho'; injection ho' with ho'; subst ho'; exact (h1 w' hw).sub (sub_restr hs hk), by rw [dstOf_eq ho]; exact h2⟩
theorem DQT.split {b : Bool} (E' : Env) (ho : ops[i]? = some o) (hs : Sub E' E) (hk : (E'.all fun p => (looks ops i).contains p.1) = true)
    (h1 : ∀ w', K w' → WL P ops (One o.dst fun u w'' => u = .bool b ∧ Chg Nob w' w'') N [o] E' w') (ht : b = true → DQT P ops Q N K w0 R is (putE E o.dst (.bool true))) (hf : b = false → DQT P ops Q N K w0 R is (putE E o.dst (.bool false))) : DQT P ops Q N K w0 R (i :: is) E :=
  DQT.step E' ho hs hk h1 (by
    cases b
    · exact hf rfl
    · exact ht rfl)
theorem DQT.done (h : Chg M w0 w0 → DT P ops Q N (Chg M w0) R.length R E w0) : DQT P ops Q N (Chg M w0) w0 R [] E := h (Chg.refl _ _)
theorem DT.step {T : Env → World → Prop} (E' : Env) (ho : ops[i]? = some o) (hs : Sub E' E) (hk : (E'.all fun p => (looks ops i).contains p.1) = true)
    (h1 : ∀ w', Chg Nob w w' → WL P ops (One o.dst fun v w'' => K w'' ∧ T (putE E o.dst v) w'') N [o] E' w') :
    ∀ w', Chg Nob w w' → ∀ o', ops[i]? = some o' → WL P ops (One o'.dst fun v w'' => K w'' ∧ T (putE E o'.dst v) w'') N [o'] (restr ops i E) w' :=
  fun w' hw o' ho' => by rw [ho] at ho'; injection ho' with ho'; subst ho'; exact (h1 w' hw).sub (sub_restr hs hk)
theorem DT.done (h : ∀ w', Chg Nob w w' → WX Q .normal N E w') (rs : List Nat) : DT P ops Q N K 0 rs E w := h
end
end Go.HL
namespace Go.HL
open Go.RowKit
section
variable {P : Program} {ops : Array Oper} {Q : Exit → Act → World → Prop} {N : Nat} {E : Env} {w : World} {rest : List Oper} {ty : TypeId} {pos : String} {af : Array Edge} {d : Nat} {α : Type} {e : Enc α} {S : Nat → Prop}
/-- append to a row that has no room: always a new block -/
theorem WL.append0 {t tx T : TypeId} {s x : Operand} {ao : Option Addr} {bytes : Nat} {ys : List α} {z v : Value} (hinfo : (P.info? T).map (fun i => (i.zero, i.size, i.bytes)) = some (some z, e.sz, bytes)) (hzs : z.cells.size = e.sz)
    (ht : P.underlying t = some (.slice T)) (hs : ev E s = some (.slice ao 0 0)) (hx : ev E x = some v) (ho : Row S w T e ao 0 ([] : List α)) (hsrc : Src P e.sz tx v ys.length (e.all ys) w) (hne : 0 < ys.length)
    (hb : ys.length * bytes ≤ 140737488355328 ∧ ys.length ≤ 9223372036854775807) (hd : Nat.blt d N = true)
    (h : ∀ g c2 w', Row (fun b => b = g) w' T e (some ⟨g, 0, none⟩) c2 ys → Chg Nob w w' → g = w.heap.size → w'.heap.size = w.heap.size + 1 → WL P ops Q N rest ((d, .slice (some ⟨g, 0, none⟩) ys.length c2) :: E) w') :
    WL P ops Q N (⟨some d, .call ⟨.builtin .append, #[s, x], #[t, tx]⟩, ty, pos, af, none⟩ :: rest) E w := by
  obtain ⟨i, hi, h1, h2, h3⟩ := info_parts hinfo
  have hn63 : 0 + ys.length ≤ maxLen := by simpa [maxLen] using hb.2
  have hold : (Builtin.firstCells i.size 0 (.slice ao 0 0)).run P w.drew = .ok ([] : List Value).toArray w.drew := by
    cases ao with
    | none => simp [Builtin.firstCells]
    | some b => exact run_firstCells_some w.drew i.size 0 b 0 0 [] (by simp) (fun j v h => by simp at h)
  have hr := run_append_grow_src (P := P) w t tx ty T i z ht hi h1 ao 0 0 [] hold v ys.length (e.all ys) (by rw [h2]; exact hsrc) (by omega) (by omega) (growslice_fits (by omega) (by rw [h3]; simpa using hb.1))
  have hge := grownCap_ge w (0 + ys.length) 0 T
  have hcm : grownCap w (0 + ys.length) 0 T ≤ maxLen := grownCap_le_maxLen w (0 + ys.length) 0 T hn63
  have hlen : (e.all ys).length = ys.length * e.sz := Enc.all_len _ _
  obtain ⟨cap, hcap⟩ : ∃ cap, cap = grownCap w (0 + ys.length) 0 T := ⟨_, rfl⟩
  rw [← hcap] at hr hge hcm
  obtain ⟨W', hW'⟩ : ∃ W', W' = w.drew.alloc (.cells (([] ++ e.all ys).toArray ++ Builtin.zeroCells z.cells (cap - (0 + ys.length))) T) := ⟨_, rfl⟩
  rw [← hW', Nat.zero_add] at hr
  refine WL.run (.slice (some ⟨w.heap.size, 0, none⟩) ys.length cap) W' (fun a ha => by simp [execOp, resolve, invoke, builtin, ev_eval ha hs, ev_eval ha hx, hr]) hd ?_
  subst hW'
  have hnew := h w.heap.size cap (w.drew.alloc (.cells (([] ++ e.all ys).toArray ++ Builtin.zeroCells z.cells (cap - (0 + ys.length))) T)) ?_ ⟨rfl, rfl, rfl, by simp, fun k hk _ => Below.heap_alloc w.drew _ k hk⟩ rfl (by simp)
  · exact hnew
  · refine ⟨fun a ea => by injection ea with ea; subst ea; rfl, hlen, by omega, .inr ⟨w.heap.size, _, (0, 0), rfl, heap_alloc_new w.drew _, fun j _ h => by omega, hcm, ?_, ?_⟩⟩
    · simp only [Array.size_append, List.size_toArray, size_zeroCells, hzs, List.nil_append, hlen, ← Nat.add_mul]
      congr 1
      omega
    · simp only [Array.toList_append, List.nil_append]
      rw [← hlen]
      exact List.take_left
end
end Go.HL
namespace Go.HL
open Go.RowKit
/-! maps whose keys and values are known by codes -/
section plain
variable {K V : Type} [DecidableEq K]
end plain
section
variable {K V : Type} [DecidableEq K] {kv : K → Value} {vv : V → Value}
/-- a map in memory -/
def Mp (kv : K → Value) (vv : V → Value) (w : World) (m : Nat) (l : List (K × V)) : Prop := ∃ es clk, w.heap[m]? = some (.map es clk) ∧ es.toList.map (fun e => (e.key, e.val)) = l.map (fun p => (kv p.1, vv p.2))
omit [DecidableEq K] in
theorem Mp.lt {w : World} {m : Nat} {l : List (K × V)} (h : Mp kv vv w m l) : m < w.heap.size := by
  obtain ⟨es, clk, h1, _⟩ := h
  exact (Array.getElem?_eq_some_iff.1 h1).1
omit [DecidableEq K] in
theorem Mp.chg {M : Nat → Prop} {w w' : World} {m : Nat} {l : List (K × V)} (h : Mp kv vv w m l) (k : Chg M w w') (hm : ¬ M m) : Mp kv vv w' m l := by
  obtain ⟨es, clk, h1, h2⟩ := h
  exact ⟨es, clk, k.obj h1 hm, h2⟩
omit [DecidableEq K] in
theorem Mp.pure {w w' : World} {m : Nat} {l : List (K × V)} (h : Mp kv vv w m l) (k : Chg Nob w w') : Mp kv vv w' m l := h.chg k (fun x => x)
variable {P : Program} {T : TypeId}
end
section
variable {K V : Type} [DecidableEq K] {kv : K → Value} {vv : V → Value} {P : Program} {ops : Array Oper} {Q : Exit → Act → World → Prop} {N : Nat} {E : Env} {w : World} {rest : List Oper} {d : Nat} {ty t T U : TypeId} {pos : String} {af : Array Edge} {x y z : Operand} {m : Nat} {l : List (K × V)} {k : K}
end
end Go.HL
namespace Go.HL
open Go.RowKit
/-! kinds of blocks -/
/-! parts of a row of the call's own are written -/
section
variable {α : Type} {e : Enc α} {S : Nat → Prop} {w : World} {T : TypeId} {g c : Nat} {xs ys : List α}
theorem Enc.all_set (e : Enc α) {xs : List α} {j : Nat} (hj : j < xs.length) (z : α) : e.all (xs.set j z) = (e.all xs).take (j * e.sz) ++ e.f z ++ (e.all xs).drop (j * e.sz + (e.f z).length) := by
  rw [List.set_eq_take_append_cons_drop, if_pos hj, Enc.all_append, e.len, Enc.all_take, show j * e.sz + e.sz = (j + 1) * e.sz from by rw [Nat.add_mul, Nat.one_mul], Enc.all_drop, List.append_assoc]
  rfl
theorem Row.take (hr : Row S w T e (some ⟨g, 0, none⟩) c xs) (i : Nat) (hi : i ≤ xs.length) : Row S w T e (some ⟨g, 0, none⟩) c (xs.take i) := by
  obtain ⟨hat, hlen, hcap, hc | ⟨g', cur, fr, hg', hg, hfr, hmax, hsz, htk⟩⟩ := hr
  · cases hc.1
  · refine ⟨hat, Enc.all_len _ _, by simp; omega, .inr ⟨g', cur, fr, hg', hg, hfr, hmax, hsz, ?_⟩⟩
    rw [← Enc.all_take, ← htk, List.take_take, List.length_take, Nat.min_eq_left hi, Nat.min_eq_left (Nat.mul_le_mul_right _ hi)]
end
section
variable {P : Program} {ops : Array Oper} {Q : Exit → Act → World → Prop} {N : Nat} {E : Env} {w : World} {rest : List Oper}
  {d : Nat} {ty : TypeId} {pos : String} {af : Array Edge} {α : Type} {e : Enc α} {S : Nat → Prop} {t tb T : TypeId} {x y : Operand} {g o c : Nat} {xs ys : List α}
end
end Go.HL
namespace Go.HL
open Go.RowKit
/-! comparisons whose answer is known -/
section
variable {P : Program} {ops : Array Oper} {Q : Exit → Act → World → Prop} {N : Nat} {E : Env} {w : World} {rest : List Oper} {d : Nat} {ty : TypeId} {pos : String} {af : Array Edge} {t tb : TypeId} {x y : Operand} {k : IntKind} {m n : Int} {s u : ByteArray}
theorem WL.neqT (hx : ev E x = some (.int k m)) (hy : ev E y = some (.int k n)) (hd : Nat.blt d N = true) (e : m ≠ n) (h : WL P ops Q N rest ((d, .bool true) :: E) w) : WL P ops Q N (⟨some d, .binOp .neq t x y tb, ty, pos, af, none⟩ :: rest) E w :=
  WL.neq? hx hy hd (fun _ => h) (fun c => by exfalso; first | exact c e | exact e c | omega)
theorem WL.neqF (hx : ev E x = some (.int k m)) (hy : ev E y = some (.int k n)) (hd : Nat.blt d N = true) (e : m = n) (h : WL P ops Q N rest ((d, .bool false) :: E) w) : WL P ops Q N (⟨some d, .binOp .neq t x y tb, ty, pos, af, none⟩ :: rest) E w :=
  WL.neq? hx hy hd (fun c => by exfalso; first | exact c e | exact e c | omega) (fun _ => h)
theorem WL.lssF (hx : ev E x = some (.int k m)) (hy : ev E y = some (.int k n)) (hd : Nat.blt d N = true) (e : n ≤ m) (h : WL P ops Q N rest ((d, .bool false) :: E) w) : WL P ops Q N (⟨some d, .binOp .lss t x y tb, ty, pos, af, none⟩ :: rest) E w :=
  WL.lss? hx hy hd (fun c => by exfalso; first | exact c e | exact e c | omega) (fun _ => h)
theorem WL.gtrT (hx : ev E x = some (.int k m)) (hy : ev E y = some (.int k n)) (hd : Nat.blt d N = true) (e : n < m) (h : WL P ops Q N rest ((d, .bool true) :: E) w) : WL P ops Q N (⟨some d, .binOp .gtr t x y tb, ty, pos, af, none⟩ :: rest) E w :=
  WL.gtr? hx hy hd (fun _ => h) (fun c => by exfalso; first | exact c e | exact e c | omega)
end
end Go.HL
namespace Go.HL
open Go.RowKit
/-! regions that draw their order: quiet operations that hang on loud ones -/
section
variable (P : Program) (ops : Array Oper) (Q : Exit → Act → World → Prop) (N : Nat) (M : Nat → Prop)
def DPQ (w0 : World) (next : Env → Prop) : List Nat → Env → Prop
  | [], E => next E
  | i :: is, E => ∃ v, (∀ o, ops[i]? = some o → ∀ w', Chg M w0 w' → WL P ops (One o.dst fun u w'' => u = v ∧ Chg Nob w' w'') N [o] (restr ops i E) w') ∧ DPQ w0 next is (putE E (dstOf ops i) v)
def DPR : List (Nat × List Nat) → Env → World → Prop
  | [], E, w => ∀ w', Chg Nob w w' → WX Q .normal N E w'
  | (r, C) :: t, E, w => ∀ w', Chg Nob w w' → ∀ o, ops[r]? = some o → WL P ops (One o.dst fun v w'' => Chg M w' w'' ∧ DPQ P ops N M w'' (fun E2 => DPR t E2 w'') C (putE E o.dst v)) N [o] (restr ops r E) w'
end
section
variable {P : Program} {ops : Array Oper} {Q : Exit → Act → World → Prop} {N : Nat} {M : Nat → Prop} {w0 : World} {E0 : Env}
end
section
variable {P : Program} {ops : Array Oper} {Q : Exit → Act → World → Prop} {N : Nat} {M : Nat → Prop} {w0 w : World} {E E' : Env} {is : List Nat} {i r : Nat} {o : Oper} {next : Env → Prop} {C : List Nat} {t : List (Nat × List Nat)}
theorem DPQ.step {v : Value} (E' : Env) (ho : ops[i]? = some o) (hs : Sub E' E) (hk : (E'.all fun p => (looks ops i).contains p.1) = true)
    (h1 : ∀ w', Chg M w0 w' → WL P ops (One o.dst fun u w'' => u = v ∧ Chg Nob w' w'') N [o] E' w') (h2 : DPQ P ops N M w0 next is (putE E o.dst v)) : DPQ P ops N M w0 next (i :: is) E :=
  ⟨v, fun o' ho' w' hw => by rw [ho] at ho'; injection ho' with ho'; subst ho'; exact (h1 w' hw).sub (sub_restr hs hk), by rw [dstOf_eq ho]; exact h2⟩
theorem DPQ.split {b : Bool} (E' : Env) (ho : ops[i]? = some o) (hs : Sub E' E) (hk : (E'.all fun p => (looks ops i).contains p.1) = true)
    (h1 : ∀ w', Chg M w0 w' → WL P ops (One o.dst fun u w'' => u = .bool b ∧ Chg Nob w' w'') N [o] E' w') (ht : b = true → DPQ P ops N M w0 next is (putE E o.dst (.bool true))) (hf : b = false → DPQ P ops N M w0 next is (putE E o.dst (.bool false))) : DPQ P ops N M w0 next (i :: is) E :=
  DPQ.step E' ho hs hk h1 (by
    cases b
    · exact hf rfl
    · exact ht rfl)
theorem DPQ.done (h : next E) : DPQ P ops N M w0 next [] E := h
theorem DPR.step (E' : Env) (ho : ops[r]? = some o) (hs : Sub E' E) (hk : (E'.all fun p => (looks ops r).contains p.1) = true)
    (h1 : ∀ w', Chg Nob w w' → WL P ops (One o.dst fun v w'' => Chg M w' w'' ∧ DPQ P ops N M w'' (fun E2 => DPR P ops Q N M t E2 w'') C (putE E o.dst v)) N [o] E' w') : DPR P ops Q N M ((r, C) :: t) E w :=
  fun w' hw o' ho' => by rw [ho] at ho'; injection ho' with ho'; subst ho'; exact (h1 w' hw).sub (sub_restr hs hk)
theorem DPR.done (h : ∀ w', Chg Nob w w' → WX Q .normal N E w') : DPR P ops Q N M [] E w := h
end
end Go.HL
namespace Go.HL
open Go.RowKit
section
variable {P : Program} {N : Nat} {E : Env} {w : World} {fn : Func} {R : Ending → World → Prop}
end
section
variable {P : Program} {ops : Array Oper} {Q : Exit → Act → World → Prop} {N : Nat} {E : Env} {w : World} {rest : List Oper}
  {d : Nat} {ty : TypeId} {pos : String} {af : Array Edge} {α : Type} {e : Enc α} {S : Nat → Prop} {t tx T : TypeId} {s x : Operand} {g i c bytes : Nat} {xs ys : List α} {z v : Value}
/-- a part of a slice, up to its room -/
theorem WL.sliceN {lo hi : Option Operand} {ao : Option Addr} {n l h : Nat} {k j : IntKind} {sz : Nat} (ht : P.underlying t = some (.slice T)) (hs : ∀ w, (sizeOf T).run P w = .ok sz w) (hx : ev E x = some (.slice ao n c))
    (hlo : lo.map (ev E) = some (some (.int k (l : Int))) ∨ lo = none ∧ l = 0) (hhi : hi.map (ev E) = some (some (.int j (h : Int))) ∧ h ≤ c ∨ hi = none ∧ h = n) (hl : l ≤ h) (hd : Nat.blt d N = true)
    (k' : WL P ops Q N rest ((d, .slice (cutAt ao c l sz) (h - l) (c - l)) :: E) w) : WL P ops Q N (⟨some d, .slice t x lo hi none, ty, pos, af, none⟩ :: rest) E w := by
  refine WL.run _ w (fun a ha => ?_) hd k'
  have hlo' : lo.map a.eval = some (.int k (l : Int)) ∨ lo.map a.eval = none ∧ l = 0 := by
    rcases hlo with h2 | ⟨rfl, h2⟩
    · cases lo with
      | none => cases h2
      | some y => simp at h2; left; simp [ev_eval ha h2]
    · right; exact ⟨rfl, h2⟩
  have hhi' : hi.map a.eval = some (.int j (h : Int)) ∧ h ≤ c ∨ hi.map a.eval = none ∧ h = n := by
    rcases hhi with ⟨h2, h3⟩ | ⟨rfl, h2⟩
    · cases hi with
      | none => cases h2
      | some y => simp at h2; left; exact ⟨by simp [ev_eval ha h2], h3⟩
    · right; exact ⟨rfl, h2⟩
  simp only [execOp, ev_eval ha hx, Option.map_none]
  simp [run_sliceAt w ht hs ao n c l h k j _ _ hlo' hhi' hl]
end
end Go.HL
namespace Go.HL
open Go.RowKit
/-! what follows a piece of code is shown once -/
def CutPost {σ : Type} (N : Nat) (Ef : σ → Env) (I : σ → World → Prop) : Exit → Act → World → Prop := fun x a w => x = .normal ∧ ∃ s, Holds N (Ef s) a ∧ I s w
section
variable {P : Program} {Q : Exit → Act → World → Prop} {N : Nat} {E : Env} {w : World} {σ : Type} {Ef : σ → Env} {I : σ → World → Prop} {c : Code}
theorem WX.cut (s : σ) (hs : Sub (Ef s) E) (hI : I s w) : WX (CutPost N Ef I) .normal N E w := fun _ ha => ⟨rfl, s, ha.sub hs, hI⟩
end
end Go.HL
namespace Go.HL
open Go.RowKit
/-! rows that are written, whatever they hold -/
/-- blocks of cells stay such, of the same size -/
def ShK (w w' : World) : Prop := ∀ (g : Nat) (cur : Array Value) (T : TypeId) (fr : Nat × Nat), w.heap[g]? = some (.cells cur T fr) → ∃ cur2 : Array Value, w'.heap[g]? = some (.cells cur2 T fr) ∧ cur2.size = cur.size
theorem ShK.refl (w : World) : ShK w w := fun _ cur _ _ h => ⟨cur, h, rfl⟩
theorem ShK.trans {a b c : World} (h : ShK a b) (k : ShK b c) : ShK a c := fun g cur T fr hg => by
  obtain ⟨c1, h1, e1⟩ := h g cur T fr hg
  obtain ⟨c2, h2, e2⟩ := k g c1 T fr h1
  exact ⟨c2, h2, e2.trans e1⟩
theorem Chg.shk {w w' : World} (h : Chg Nob w w') : ShK w w' := fun g cur T fr hg => ⟨cur, h.obj hg (fun x => x), rfl⟩
theorem ShK.set {w w' : World} {g : Nat} {cur cur2 : Array Value} {T : TypeId} {fr : Nat × Nat} (k : Chg (· = g) w w') (hg : w.heap[g]? = some (.cells cur T fr)) (hg2 : w'.heap[g]? = some (.cells cur2 T fr)) (hs : cur2.size = cur.size) : ShK w w' := fun b c1 T1 f1 hb => by
  by_cases e : b = g
  · subst e
    rw [hg] at hb
    injection hb with hb
    injection hb with e1 e2 e3
    subst e1; subst e2; subst e3
    exact ⟨cur2, hg2, hs⟩
  · exact ⟨c1, k.obj hb e, rfl⟩
/-- n elements at the head of a block of S may be written -/
def Wt (S : Nat → Prop) (w : World) (T : TypeId) (sz : Nat) (ao : Option Addr) (n : Nat) : Prop :=
  n = 0 ∨ ∃ (g : Nat) (cur : Array Value) (fr : Nat × Nat), ao = some ⟨g, 0, none⟩ ∧ S g ∧ w.heap[g]? = some (.cells cur T fr) ∧ (∀ j, j < cur.size → ¬ (fr.1 ≤ j ∧ j < fr.2)) ∧ n * sz ≤ cur.size
theorem Wt.keep {S : Nat → Prop} {w w' : World} {T : TypeId} {sz : Nat} {ao : Option Addr} {n : Nat} (h : Wt S w T sz ao n) (k : ShK w w') : Wt S w' T sz ao n := by
  rcases h with h | ⟨g, cur, fr, h1, h2, h3, h4, h5⟩
  · exact .inl h
  · obtain ⟨c2, h6, h7⟩ := k _ _ _ _ h3
    exact .inr ⟨g, c2, fr, h1, h2, h6, by rw [h7]; exact h4, by omega⟩
theorem Wt.mono {S S' : Nat → Prop} {w : World} {T : TypeId} {sz : Nat} {ao : Option Addr} {n : Nat} (h : Wt S w T sz ao n) (k : ∀ b, S b → S' b) : Wt S' w T sz ao n := by
  rcases h with h | ⟨g, cur, fr, h1, h2, h3⟩
  · exact .inl h
  · exact .inr ⟨g, cur, fr, h1, k _ h2, h3⟩
theorem Wt.chg {S M : Nat → Prop} {w w' : World} {T : TypeId} {sz : Nat} {ao : Option Addr} {n : Nat} (h : Wt S w T sz ao n) (k : Chg M w w') (hd : ∀ b, b < w.heap.size → S b → M b → False) : Wt S w' T sz ao n := by
  rcases h with h | ⟨g, cur, fr, h1, h2, h3, h4⟩
  · exact .inl h
  · exact .inr ⟨g, cur, fr, h1, h2, k.obj h3 (fun hm => hd g (Array.getElem?_eq_some_iff.1 h3).1 h2 hm), h4⟩
theorem Wt.lt {S : Nat → Prop} {w : World} {T : TypeId} {sz : Nat} {ao : Option Addr} {n : Nat} (h : Wt S w T sz ao n) : Wt (fun b => S b ∧ b < w.heap.size) w T sz ao n := by
  rcases h with h | ⟨g, cur, fr, h1, h2, h3, h4⟩
  · exact .inl h
  · exact .inr ⟨g, cur, fr, h1, ⟨h2, (Array.getElem?_eq_some_iff.1 h3).1⟩, h3, h4⟩
theorem Wt.pure {S : Nat → Prop} {w w' : World} {T : TypeId} {sz : Nat} {ao : Option Addr} {n : Nat} (h : Wt S w T sz ao n) (k : Chg Nob w w') : Wt S w' T sz ao n := h.keep k.shk
theorem Row.wt {α : Type} {e : Enc α} {S : Nat → Prop} {w : World} {T : TypeId} {ao : Option Addr} {c : Nat} {xs : List α} (h : Row S w T e ao c xs) : Wt S w T e.sz ao xs.length := by
  have hcap := h.own.cap
  rcases h.own.2.2 with ⟨rfl, rfl⟩ | ⟨g, cur, fr, rfl, hg, hfr, _, hsz, _⟩
  · exact .inl (by omega)
  · exact .inr ⟨g, cur, fr, rfl, h.at_ _ rfl, hg, hfr, by rw [hsz]; exact Nat.mul_le_mul_right _ hcap⟩
section
variable {P : Program} {ops : Array Oper} {Q : Exit → Act → World → Prop} {N : Nat} {E : Env} {w : World} {rest : List Oper} {ty : TypeId} {pos : String} {af : Array Edge}
end
end Go.HL
namespace Go.HL
open Go.RowKit
/-! what follows a piece of code is shown once; other ways out of it go on by themselves -/
def CutG {σ : Type} (Q : Exit → Act → World → Prop) (N : Nat) (Ef : σ → Env) (I : σ → World → Prop) : Exit → Act → World → Prop := fun x a w => (x = .normal ∧ ∃ s, Holds N (Ef s) a ∧ I s w) ∨ Q x a w
section
variable {P : Program} {Q : Exit → Act → World → Prop} {N : Nat} {E : Env} {w : World} {σ : Type} {Ef : σ → Env} {I : σ → World → Prop} {c : Code}
theorem WC.cutG (Ef : σ → Env) (I : σ → World → Prop) (htail : ∀ s w', I s w' → WX Q .normal N (Ef s) w') (hbody : WC P c (CutG Q N Ef I) N E w) : WC P c Q N E w := fun a ha => by
  refine Code.wp_mono ?_ (hbody a ha)
  rintro x a' w' (⟨rfl, s, hs, hI⟩ | h)
  · exact htail s w' hI a' hs
  · exact h
theorem WX.cutN (s : σ) (hs : Sub (Ef s) E) (hI : I s w) : WX (CutG Q N Ef I) .normal N E w := fun _ ha => .inl ⟨rfl, s, ha.sub hs, hI⟩
theorem WX.pass {x : Exit} (h : WX Q x N E w) : WX (CutG Q N Ef I) x N E w := fun a ha => .inr (h a ha)
end
/-- a row of the call's own, where another one has grown -/
def ApG (x y : Option Addr) : Prop := ∀ a b, x = some a → y = some b → a.block ≠ b.block
theorem ApG.symm {x y : Option Addr} (h : ApG x y) : ApG y x := fun a b ha hb e => h b a hb ha e.symm
theorem ApG.none (x : Option Addr) : ApG x none := fun _ _ _ h => by cases h
theorem ApG.eqb {a b : Option Addr} {x : Nat} (h : ApG a b) (h1 : Eqb a x) (h2 : Eqb b x) : False := by
  obtain ⟨p, rfl, e1⟩ := h1
  obtain ⟨q, rfl, e2⟩ := h2
  exact h p q rfl rfl (e1.symm.trans e2)
end Go.HL
namespace Go.HL
open Go.RowKit
section
variable {P : Program} {ops : Array Oper} {Q : Exit → Act → World → Prop} {N : Nat} {E : Env} {w : World} {rest : List Oper} {ty : TypeId} {pos : String} {af : Array Edge} {d : Nat} {α : Type} {e : Enc α} {t T tx : TypeId}
/-- noughts are appended to what is nil: room is made -/
theorem WL.appendZ {s x : Operand} {bytes n : Nat} {k kn : IntKind} {z : Value} (hinfo : (P.info? T).map (fun i => (i.zero, i.size, i.bytes)) = some (some z, e.sz, bytes)) (hzs : z.cells.size = e.sz)
    (ht : P.underlying t = some (.slice T)) (htx : P.underlying tx = some (.int kn)) (hs : ev E s = some (.slice none 0 0)) (hx : ev E x = some (.int k (n : Int))) (hn : 0 < n ∧ n ≤ 9223372036854775807 ∧ n * bytes ≤ 140737488355328) (hd : Nat.blt d N = true)
    (h : ∀ g c w', Row (fun b => b = g) w' T e (some ⟨g, 0, none⟩) c ([] : List α) → n ≤ c → Chg Nob w w' → g = w.heap.size → WL P ops Q N rest ((d, .slice (some ⟨g, 0, none⟩) n c) :: E) w') :
    WL P ops Q N (⟨some d, .call ⟨.builtin .append, #[s, x], #[t, tx]⟩, ty, pos, af, none⟩ :: rest) E w := by
  obtain ⟨i, hi, h1, h2, h3⟩ := info_parts hinfo
  have hr := Lib.run_append_nil_zeros (P := P) w t tx ty T i z k kn ht htx hi h1 n hn.1 (by rw [h2]; exact e.pos) (by omega) (by rw [h3]; omega)
  have hge := grownCap_ge w n 0 T
  have hcm : grownCap w n 0 T ≤ maxLen := grownCap_le_maxLen w n 0 T (by simpa [maxLen] using hn.2.1)
  obtain ⟨cap, hcap⟩ : ∃ cap, cap = grownCap w n 0 T := ⟨_, rfl⟩
  rw [← hcap] at hr hge hcm
  obtain ⟨W', hW'⟩ : ∃ W', W' = w.drew.alloc (.cells (Builtin.zeroCells z.cells n ++ Builtin.zeroCells z.cells (cap - n)) T) := ⟨_, rfl⟩
  rw [← hW'] at hr
  refine WL.run (.slice (some ⟨w.heap.size, 0, none⟩) n cap) W' (fun a ha => by simp [execOp, resolve, invoke, builtin, ev_eval ha hs, ev_eval ha hx, hr]) hd ?_
  subst hW'
  refine h w.heap.size cap _ ⟨fun a ea => by injection ea with ea; subst ea; rfl, by simp [Enc.all], Nat.zero_le _, .inr ⟨w.heap.size, _, (0, 0), rfl, heap_alloc_new w.drew _, fun j _ hh => by omega, hcm, ?_, ?_⟩⟩ hge ⟨rfl, rfl, rfl, by simp, fun k hk _ => Below.heap_alloc w.drew _ k hk⟩ rfl
  · simp only [Array.size_append, size_zeroCells, hzs, ← Nat.add_mul]
    congr 1
    omega
  · simp [Enc.all]
end
end Go.HL
