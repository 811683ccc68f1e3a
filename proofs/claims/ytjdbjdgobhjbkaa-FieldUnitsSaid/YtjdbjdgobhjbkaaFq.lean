import Derived.Test.YtjdbjdgobhjbkaaFp
import Derived.Test.YtjdbjdgobhjbkaaGh
import Derived.Test.YtjdbjdgobhjbkaaHj
namespace Go.HL
open Go.RowKit
def unit (n i : Nat) : List UInt8 := (List.replicate n 0).set i 1
theorem unit_len (n i : Nat) : (unit n i).length = n := by rw [unit, List.length_set, List.length_replicate]
theorem unit_at {n i : Nat} (hi : i < n) (j : Nat) : (unit n i).getD j 0 = if j = i then 1 else 0 := by
  rw [unit, List.getD_eq_getElem?_getD, List.getElem?_set]
  by_cases e : i = j
  · rw [if_pos e, if_pos (by rw [List.length_replicate]; exact hi), if_pos e.symm]; rfl
  · rw [if_neg e, if_neg (fun e2 => e e2.symm), List.getElem?_replicate]
    split <;> rfl
theorem unit_sum {n i : Nat} (hi : i < n) (y : Nat → UInt8) : sumF n (fun j => mul ((unit n i).getD j 0) (y j)) = y i := by
  rw [sumF_single hi (fun j hj hne => by rw [unit_at hi, if_neg hne, mul_zero_l]), unit_at hi, if_pos rfl, one_mul']
structure Units (n : Nat) (ms : List Rw) (i : Nat) : Prop where
  len : ms.length = i
  row : ∀ (j : Nat) (z : Rw), ms[j]? = some z → z.xs = unit n j
theorem Units.fnx {n : Nat} {ms : List Rw} (h : Units n ms n) {i : Nat} (hi : i < n) (j : Nat) : fn (mx ms) i j = (unit n i).getD j 0 := by
  have h1 : ms[i]? = some (ms[i]'(by rw [h.len]; exact hi)) := List.getElem?_eq_getElem _
  rw [fn_mx h1, h.row i _ h1]
theorem Units.shape {n : Nat} {ms : List Rw} (h : Units n ms n) {rgt : List UInt8} (hn : 1 ≤ n ∧ n ≤ 8) (hr : rgt.length = n) : ShapeOk (mx ms) rgt := by
  have hl := mx_len ms
  rw [h.len] at hl
  refine ⟨by rw [hl]; exact hn, by rw [hl]; exact hr, fun z hz => ?_⟩
  obtain ⟨q, hq, rfl⟩ := List.mem_map.1 hz
  obtain ⟨i, hi⟩ := List.getElem?_of_mem hq
  rw [hl, h.row i q hi, unit_len]
theorem Units.sol {n : Nat} {ms : List Rw} (h : Units n ms n) {rgt out : List UInt8} {e : Int} (hn : 1 ≤ n ∧ n ≤ 8) (hr : rgt.length = n) (hS : SolR (mx ms) rgt out e) : out = rgt ∧ e = 0 := by
  have hl := mx_len ms
  rw [h.len] at hl
  have hsh := h.shape hn hr
  rcases hS with ⟨h1, _⟩ | ⟨_, h1, hol, h2⟩ | ⟨_, _, _, y, ⟨j, hj, hy⟩, hK⟩
  · exact absurd hsh h1
  · refine ⟨getD_ext (by rw [hol, hl, hr]) (fun i hi => ?_), h1⟩
    rw [hl] at h2 hol
    refine ((h2 (fun j => rgt.getD j 0)).1 (fun p hp => ?_) i (by omega)).symm
    rw [← unit_sum hp (fun j => rgt.getD j 0)]
    exact sumF_cong (fun j _ => by rw [h.fnx hp])
  · rw [hl] at hj hK
    refine absurd ?_ hy
    rw [← unit_sum hj y]
    refine Eq.trans (sumF_cong (fun q _ => ?_)) (hK j hj)
    rw [h.fnx hj]
theorem Units.twice {n : Nat} {ms : List Rw} (h : Units n ms n) {z : Rw} (hz : ms[1]? = some z) {rgt out : List UInt8} {e : Int} (hn : 2 ≤ n ∧ n ≤ 8) (hr : rgt.length = n) (hS : SolR (mx (ms.set 0 z)) rgt out e) : e = 7 := by
  have hl := mx_len (ms.set 0 z)
  rw [List.length_set, h.len] at hl
  have hf : ∀ i j, i < n → fn (mx (ms.set 0 z)) i j = (unit n (if i = 0 then 1 else i)).getD j 0 := fun i j hi => by
    rw [fn_setr (by rw [h.len]; omega)]
    by_cases e : i = 0
    · rw [if_pos e, if_pos e, h.row 1 z hz]
    · rw [if_neg e, if_neg e, h.fnx hi]
  have hsh : ShapeOk (mx (ms.set 0 z)) rgt := by
    refine ⟨by rw [hl]; omega, by rw [hl]; exact hr, fun y hy => ?_⟩
    obtain ⟨q, hq, rfl⟩ := List.mem_map.1 hy
    rw [hl]
    rcases List.mem_or_eq_of_mem_set hq with h1 | h1
    · obtain ⟨i, hi⟩ := List.getElem?_of_mem h1
      rw [h.row i q hi, unit_len]
    · rw [h1, h.row 1 z hz, unit_len]
  rcases hS with ⟨h1, _⟩ | ⟨_, _, _, h2⟩ | ⟨_, h1, _⟩
  · exact absurd hsh h1
  · rw [hl] at h2
    have h3 := ker_uniq h2 (y := fun j => if j = 0 then 1 else 0) (fun i hi => by
      refine (sumF_cong (fun j _ => by rw [hf i j hi])).trans ?_
      rw [unit_sum (show (if i = 0 then 1 else i) < n by split <;> omega)]
      show (if (if i = 0 then 1 else i) = 0 then (1 : UInt8) else 0) = 0
      rw [if_neg (by split <;> omega)]) (j := 0) (by omega)
    exact absurd h3 (by show ¬ ((if (0 : Nat) = 0 then (1 : UInt8) else 0) = 0); decide)
  · exact h1
end Go.HL
namespace Go.Proofs.Ytjdbjdgobhjbkaa
open Go.RowKit Go.HL

set_option maxHeartbeats 4000000 in
theorem FieldUnits_calls {w : World} {cr : Nat} {ar : Option Addr} {rgt : List UInt8} (hr : RSl (· < w.heap.size) w eb ar cr rgt) (hl : rgt.length ≤ 9223372036854775807) :
    Calls Try.prog 6 [.slice ar rgt.length cr].toArray w (Ret fun v w' => v = .bool true ∧ Chg Nob w w') := by
  have hw := Chg.refl Nob w
  obtain ⟨n, hn⟩ : ∃ n, n = rgt.length := ⟨_, rfl⟩
  obtain ⟨kk, hkk⟩ : ∃ kk, kk = if 20 < rgt.length then 20 else rgt.length := ⟨_, rfl⟩
  have hkI : (if (20 : Int) < (rgt.length : Int) then (20 : Int) else (rgt.length : Int)) = (kk : Int) := by rw [hkk]; split <;> split <;> omega
  have hkl : kk ≤ rgt.length := by rw [hkk]; split <;> omega
  have ek : (rgt.take kk).drop 0 = rgt.take kk := List.drop_zero
  refine Calls.of_WC Try.func6 rfl Try.ntmps6 (by simp) ?_
  refine WC.seq (WC.region (WL.assign rfl rfl (WL.nil (WX.then_normal (WC.seq (WC.seq (WC.region (?_))))))))
  refine WL.call eg_11 rfl rfl (known2_calls _) ?_
  rintro v w1 ⟨rfl, k1⟩
  have zk1 := k1.size
  have zs_k1 := k1.size
  replace hr := hr.pure k1
  replace hw := hw.pure k1
  refine WL.not rfl rfl (WL.nil (WX.then_normal (WC.cond_false rfl (WC.skip (WX.then_normal (WC.seq (WC.region (?_))))))))
  refine WL.move rfl rfl (WL.len Try.underlying23 rfl rfl (WL.assign rfl rfl (WL.nil (WX.then_normal (WC.seq (WC.seq (WC.region (?_))))))))
  refine WL.move rfl rfl (?_)
  refine WL.lss? rfl rfl rfl (fun h16 => ?_) (fun h16 => ?_)
  ·
    refine WL.move rfl rfl (WL.pass rfl rfl rfl rfl (WL.pass rfl rfl rfl rfl (WL.pickT rfl rfl rfl (WL.nil (WX.then_normal (WC.cond_true rfl (WC.seq (?_))))))))
    have hbad : rgt.length < 1 ∨ 8 < rgt.length := by omega
    have hq29 := hr.cut 0 kk ⟨Nat.zero_le _, hkl⟩
    rw [ek] at hq29
    refine WC.drawM ((fun x => w1.heap.size ≤ x)) [1, 2, 4, 5, 6, 7] [0, 3, 8, 9, 10, 11, 12, 13] mixed rfl rfl (fun wd_1 kd_1 zd_1 => ?_)
    have zs_kd_1 := kd_1.size
    replace hr := hr.pure kd_1
    replace hw := hw.pure kd_1
    replace hq29 := hq29.pure kd_1
    apply DQT.step (E' := [(3, _)])
    case ho => rfl
    case hs => exact ⟨rfl, trivial⟩
    case hk => rfl
    case h1 =>
      intro wq_3 kq_3
      refine WL.move rfl rfl (?_)
      refine WL.nil ?_
      exact WX.one ⟨rfl, by first | exact Chg.refl _ _ | assumption⟩
    apply DQT.step (E' := [(23, _)])
    case ho => rfl
    case hs => exact ⟨rfl, trivial⟩
    case hk => rfl
    case h1 =>
      intro wq_4 kq_4
      have zs_kq_4 := kq_4.size
      replace hr := hr.chg kq_4 (by first | (intro x h1 h2; exact h2) | (intro x h1 h2; have h3 : _ = _ := h2; exfalso; omega) | (intro b h1 h2 h3; have h4 : _ = _ := h3; (try dsimp only at h2); exfalso; omega) | (intro h1; have h2 : _ = _ := h1; exfalso; omega) | (intros; exfalso; (try dsimp only at *); omega) | (intro b h1 h2 h3; exfalso; have h4 := h3.2; (try dsimp only at *); omega) | (intro h1; exfalso; have h4 := h1.2; (try dsimp only at *); omega))
      replace hq29 := hq29.chg kq_4 (by first | (intro x h1 h2; exact h2) | (intro x h1 h2; have h3 : _ = _ := h2; exfalso; omega) | (intro b h1 h2 h3; have h4 : _ = _ := h3; (try dsimp only at h2); exfalso; omega) | (intro h1; have h2 : _ = _ := h1; exfalso; omega) | (intros; exfalso; (try dsimp only at *); omega) | (intro b h1 h2 h3; exfalso; have h4 := h3.2; (try dsimp only at *); omega) | (intro h1; exfalso; have h4 := h1.2; (try dsimp only at *); omega))
      refine WL.mini rfl rfl rfl ?_
      rw [hkI]
      refine WL.nil ?_
      exact WX.one ⟨rfl, by first | exact Chg.refl _ _ | assumption⟩
    apply DQT.step (E' := [(0, _)])
    case ho => rfl
    case hs => exact ⟨rfl, trivial⟩
    case hk => rfl
    case h1 =>
      intro wq_5 kq_5
      refine WL.move rfl rfl (?_)
      refine WL.nil ?_
      exact WX.one ⟨rfl, by first | exact Chg.refl _ _ | assumption⟩
    apply DQT.step (E' := [(3, _)])
    case ho => rfl
    case hs => exact ⟨rfl, trivial⟩
    case hk => rfl
    case h1 =>
      intro wq_6 kq_6
      refine WL.move rfl rfl (?_)
      refine WL.nil ?_
      exact WX.one ⟨rfl, by first | exact Chg.refl _ _ | assumption⟩
    apply DQT.step (E' := [(27, _)])
    case ho => rfl
    case hs => exact ⟨rfl, trivial⟩
    case hk => rfl
    case h1 =>
      intro wq_7 kq_7
      have zs_kq_7 := kq_7.size
      replace hr := hr.chg kq_7 (by first | (intro x h1 h2; exact h2) | (intro x h1 h2; have h3 : _ = _ := h2; exfalso; omega) | (intro b h1 h2 h3; have h4 : _ = _ := h3; (try dsimp only at h2); exfalso; omega) | (intro h1; have h2 : _ = _ := h1; exfalso; omega) | (intros; exfalso; (try dsimp only at *); omega) | (intro b h1 h2 h3; exfalso; have h4 := h3.2; (try dsimp only at *); omega) | (intro h1; exfalso; have h4 := h1.2; (try dsimp only at *); omega))
      replace hq29 := hq29.chg kq_7 (by first | (intro x h1 h2; exact h2) | (intro x h1 h2; have h3 : _ = _ := h2; exfalso; omega) | (intro b h1 h2 h3; have h4 : _ = _ := h3; (try dsimp only at h2); exfalso; omega) | (intro h1; have h2 : _ = _ := h1; exfalso; omega) | (intros; exfalso; (try dsimp only at *); omega) | (intro b h1 h2 h3; exfalso; have h4 := h3.2; (try dsimp only at *); omega) | (intro h1; exfalso; have h4 := h1.2; (try dsimp only at *); omega))
      refine WL.mini rfl rfl rfl ?_
      rw [hkI]
      refine WL.nil ?_
      exact WX.one ⟨rfl, by first | exact Chg.refl _ _ | assumption⟩
    apply DQT.step (E' := [(26, _), (28, _)])
    case ho => rfl
    case hs => exact ⟨rfl, rfl, trivial⟩
    case hk => rfl
    case h1 =>
      intro wq_8 kq_8
      have zs_kq_8 := kq_8.size
      replace hr := hr.chg kq_8 (by first | (intro x h1 h2; exact h2) | (intro x h1 h2; have h3 : _ = _ := h2; exfalso; omega) | (intro b h1 h2 h3; have h4 : _ = _ := h3; (try dsimp only at h2); exfalso; omega) | (intro h1; have h2 : _ = _ := h1; exfalso; omega) | (intros; exfalso; (try dsimp only at *); omega) | (intro b h1 h2 h3; exfalso; have h4 := h3.2; (try dsimp only at *); omega) | (intro h1; exfalso; have h4 := h1.2; (try dsimp only at *); omega))
      replace hq29 := hq29.chg kq_8 (by first | (intro x h1 h2; exact h2) | (intro x h1 h2; have h3 : _ = _ := h2; exfalso; omega) | (intro b h1 h2 h3; have h4 : _ = _ := h3; (try dsimp only at h2); exfalso; omega) | (intro h1; have h2 : _ = _ := h1; exfalso; omega) | (intros; exfalso; (try dsimp only at *); omega) | (intro b h1 h2 h3; exfalso; have h4 := h3.2; (try dsimp only at *); omega) | (intro h1; exfalso; have h4 := h1.2; (try dsimp only at *); omega))
      refine WL.sliceC (l := 0) (h := kk) (k := .i64) Try.underlying23 Try.sizeOf5 hr rfl (.inr ⟨rfl, rfl⟩) (.inl rfl) (by constructor <;> omega) rfl ?_
      rw [ek]
      refine WL.nil ?_
      exact WX.one ⟨rfl, by first | exact Chg.refl _ _ | assumption⟩
    refine DQT.done (fun hd_2 => ?_)
    refine ⟨?_, ?_, trivial, trivial, trivial, trivial, trivial, trivial, trivial⟩
    refine DT.step [] rfl trivial rfl (fun wq_9 kq_9 => ?_)
    have zs_kq_9 := kq_9.size
    replace hr := hr.pure kq_9
    replace hw := hw.pure kq_9
    replace hq29 := hq29.pure kq_9
    replace hd_2 := hd_2.pure kq_9
    refine WL.call eg_13 rfl rfl (fresh_calls _) ?_
    rintro v w3 ⟨⟨gf, rfl, hF, hgf⟩, k3⟩
    have zk3 := k3.size
    have lgf := hF.lt
    have zs_k3 := k3.size
    replace hr := hr.pure k3
    replace hw := hw.pure k3
    replace hq29 := hq29.pure k3
    replace hd_2 := hd_2.pure k3
    refine WL.nil (WX.one ⟨hd_2, ?_⟩)
    refine ⟨?_, trivial, trivial, trivial, trivial, trivial, trivial, trivial⟩
    refine DT.step [(24, _)] rfl ⟨rfl, trivial⟩ rfl (fun wq_10 kq_10 => ?_)
    have zs_kq_10 := kq_10.size
    replace hr := hr.pure kq_10
    replace hw := hw.pure kq_10
    replace hq29 := hq29.pure kq_10
    replace hd_2 := hd_2.pure kq_10
    replace hF := hF.pure kq_10
    refine WL.make (e := erow) (⟨none, 0, []⟩ : Rw) kk kk Try.underlying22 info_23 rfl rfl rfl ⟨rfl, rfl, Nat.le_refl _⟩ (by rw [hkk]; split <;> constructor <;> omega) rfl ?_
    intro gm wm hm km zm em
    rw [List.length_replicate]
    have lgm : gm < wm.heap.size := hm.own.lt _ rfl
    have zs_km := km.size
    replace hr := hr.pure km
    replace hw := hw.pure km
    replace hq29 := hq29.pure km
    replace hd_2 := hd_2.pure km
    replace hF := hF.pure km
    refine WL.nil (WX.one ⟨hd_2, ?_⟩)
    refine ⟨?_, trivial, trivial, trivial, trivial, trivial, trivial⟩
    refine DT.step [(22, _), (25, _), (29, _)] rfl ⟨rfl, rfl, rfl, trivial⟩ rfl (fun wq_11 kq_11 => ?_)
    have zs_kq_11 := kq_11.size
    replace hr := hr.pure kq_11
    replace hw := hw.pure kq_11
    replace hq29 := hq29.pure kq_11
    replace hd_2 := hd_2.pure kq_11
    replace hF := hF.pure kq_11
    replace hm := hm.pure kq_11
    have hgmf : gm ≠ gf := by omega
    have hq29' := hq29
    have hRS : RS (fun b => b ≠ gf) _ (some ⟨gm, 0, none⟩) kk (List.replicate kk (⟨none, 0, []⟩ : Rw)) := ⟨⟨fun _ a ea => by injection ea with ea; rw [← ea]; exact hgmf, by rw [List.length_replicate]; exact Nat.le_refl _, hm.rsl.sl⟩, fun r hr => by
      rw [(List.mem_replicate.1 hr).2]
      exact RSl.nil _ _ _ _ _⟩
    have hcall := Solve_calls hF hRS (hq29'.mono (S' := fun b => b ≠ gf) (fun b hb => by omega)) (by rw [List.length_replicate]; omega) (by rw [List.length_take]; omega)
    rw [List.length_replicate] at hcall
    refine WL.call eg_14 rfl rfl (hcall) ?_
    rintro v w5 ⟨⟨ay, cy, out, e, rfl, hS, hY⟩, hF5, k5⟩
    have hns : ¬ ShapeOk (mx (List.replicate kk (⟨none, 0, []⟩ : Rw))) (rgt.take kk) := fun hs => by
      have h1 := hs.1
      rw [mx_len, List.length_replicate, hkk] at h1
      split at h1 <;> omega
    obtain ⟨rfl, rfl⟩ := SolR.bad hS hns
    have k5' := k5.mono (M' := fun x => w1.heap.size ≤ x) (fun x _ hx => by have h2 : x = gf := hx; show w1.heap.size ≤ x; omega)
    have zs_k5' := k5'.size
    replace hr := hr.chg k5' (by first | (intro x h1 h2; exact h2) | (intro x h1 h2; have h3 : _ = _ := h2; exfalso; omega) | (intro b h1 h2 h3; have h4 : _ = _ := h3; (try dsimp only at h2); exfalso; omega) | (intro h1; have h2 : _ = _ := h1; exfalso; omega) | (intros; exfalso; (try dsimp only at *); omega) | (intro b h1 h2 h3; exfalso; have h4 := h3.2; (try dsimp only at *); omega) | (intro h1; exfalso; have h4 := h1.2; (try dsimp only at *); omega))
    replace hw := hw.chg k5' (by first | (intro x h1 h2; exact h2) | (intro x h1 h2; have h3 : _ = _ := h2; exfalso; omega) | (intro b h1 h2 h3; have h4 : _ = _ := h3; (try dsimp only at h2); exfalso; omega) | (intro h1; have h2 : _ = _ := h1; exfalso; omega) | (intros; exfalso; (try dsimp only at *); omega) | (intro b h1 h2 h3; exfalso; have h4 := h3.2; (try dsimp only at *); omega) | (intro h1; exfalso; have h4 := h1.2; (try dsimp only at *); omega))
    replace hq29 := hq29.chg k5' (by first | (intro x h1 h2; exact h2) | (intro x h1 h2; have h3 : _ = _ := h2; exfalso; omega) | (intro b h1 h2 h3; have h4 : _ = _ := h3; (try dsimp only at h2); exfalso; omega) | (intro h1; have h2 : _ = _ := h1; exfalso; omega) | (intros; exfalso; (try dsimp only at *); omega) | (intro b h1 h2 h3; exfalso; have h4 := h3.2; (try dsimp only at *); omega) | (intro h1; exfalso; have h4 := h1.2; (try dsimp only at *); omega))
    replace hd_2 := hd_2.chg k5' (by first | (intro x h1 h2; exact h2) | (intro x h1 h2; have h3 : _ = _ := h2; exfalso; omega) | (intro b h1 h2 h3; have h4 : _ = _ := h3; (try dsimp only at h2); exfalso; omega) | (intro h1; have h2 : _ = _ := h1; exfalso; omega) | (intros; exfalso; (try dsimp only at *); omega) | (intro b h1 h2 h3; exfalso; have h4 := h3.2; (try dsimp only at *); omega) | (intro h1; exfalso; have h4 := h1.2; (try dsimp only at *); omega))
    refine WL.nil (WX.one ⟨hd_2, ?_⟩)
    refine ⟨?_, trivial, trivial, trivial, trivial, trivial⟩
    refine DT.step [(30, _)] rfl ⟨rfl, trivial⟩ rfl (fun wq_12 kq_12 => ?_)
    have zs_kq_12 := kq_12.size
    replace hr := hr.pure kq_12
    replace hw := hw.pure kq_12
    replace hq29 := hq29.pure kq_12
    replace hd_2 := hd_2.pure kq_12
    refine WL.move rfl rfl (?_)
    refine WL.nil (WX.one ⟨hd_2, ?_⟩)
    refine ⟨?_, ?_, trivial, trivial, trivial⟩
    refine DT.step [(21, _)] rfl ⟨rfl, trivial⟩ rfl (fun wq_13 kq_13 => ?_)
    have zs_kq_13 := kq_13.size
    replace hr := hr.pure kq_13
    replace hw := hw.pure kq_13
    replace hq29 := hq29.pure kq_13
    replace hd_2 := hd_2.pure kq_13
    refine WL.extract rfl rfl rfl (?_)
    refine WL.nil (WX.one ⟨hd_2, ?_⟩)
    refine ⟨?_, ?_, trivial, trivial⟩
    refine DT.step [(21, _)] rfl ⟨rfl, trivial⟩ rfl (fun wq_14 kq_14 => ?_)
    have zs_kq_14 := kq_14.size
    replace hr := hr.pure kq_14
    replace hw := hw.pure kq_14
    replace hq29 := hq29.pure kq_14
    replace hd_2 := hd_2.pure kq_14
    refine WL.extract rfl rfl rfl (?_)
    refine WL.nil (WX.one ⟨hd_2, ?_⟩)
    refine ⟨?_, trivial, trivial⟩
    refine DT.step [(31, _)] rfl ⟨rfl, trivial⟩ rfl (fun wq_15 kq_15 => ?_)
    have zs_kq_15 := kq_15.size
    replace hr := hr.pure kq_15
    replace hw := hw.pure kq_15
    replace hq29 := hq29.pure kq_15
    replace hd_2 := hd_2.pure kq_15
    refine WL.assign rfl rfl (?_)
    refine WL.nil (WX.one ⟨hd_2, ?_⟩)
    refine ⟨?_, trivial⟩
    refine DT.step [(32, _)] rfl ⟨rfl, trivial⟩ rfl (fun wq_16 kq_16 => ?_)
    have zs_kq_16 := kq_16.size
    replace hr := hr.pure kq_16
    replace hw := hw.pure kq_16
    replace hq29 := hq29.pure kq_16
    replace hd_2 := hd_2.pure kq_16
    refine WL.assign rfl rfl (?_)
    refine WL.nil (WX.one ⟨hd_2, ?_⟩)
    refine DT.done (fun we_17 ke_17 => ?_) _
    have zs_ke_17 := ke_17.size
    replace hr := hr.pure ke_17
    replace hw := hw.pure ke_17
    replace hq29 := hq29.pure ke_17
    replace hd_2 := hd_2.pure ke_17
    rotate_left
    refine DT.step [(31, _)] rfl ⟨rfl, trivial⟩ rfl (fun wq_14 kq_14 => ?_)
    have zs_kq_14 := kq_14.size
    replace hr := hr.pure kq_14
    replace hw := hw.pure kq_14
    replace hq29 := hq29.pure kq_14
    replace hd_2 := hd_2.pure kq_14
    refine WL.assign rfl rfl (?_)
    refine WL.nil (WX.one ⟨hd_2, ?_⟩)
    refine ⟨?_, trivial, trivial⟩
    refine DT.step [(21, _)] rfl ⟨rfl, trivial⟩ rfl (fun wq_15 kq_15 => ?_)
    have zs_kq_15 := kq_15.size
    replace hr := hr.pure kq_15
    replace hw := hw.pure kq_15
    replace hq29 := hq29.pure kq_15
    replace hd_2 := hd_2.pure kq_15
    refine WL.extract rfl rfl rfl (?_)
    refine WL.nil (WX.one ⟨hd_2, ?_⟩)
    refine ⟨?_, trivial⟩
    refine DT.step [(32, _)] rfl ⟨rfl, trivial⟩ rfl (fun wq_16 kq_16 => ?_)
    have zs_kq_16 := kq_16.size
    replace hr := hr.pure kq_16
    replace hw := hw.pure kq_16
    replace hq29 := hq29.pure kq_16
    replace hd_2 := hd_2.pure kq_16
    refine WL.assign rfl rfl (?_)
    refine WL.nil (WX.one ⟨hd_2, ?_⟩)
    refine DT.done (fun we_17 ke_17 => ?_) _
    have zs_ke_17 := ke_17.size
    replace hr := hr.pure ke_17
    replace hw := hw.pure ke_17
    replace hq29 := hq29.pure ke_17
    replace hd_2 := hd_2.pure ke_17
    rotate_left
    refine DT.step [(21, _)] rfl ⟨rfl, trivial⟩ rfl (fun wq_13 kq_13 => ?_)
    have zs_kq_13 := kq_13.size
    replace hr := hr.pure kq_13
    replace hw := hw.pure kq_13
    replace hq29 := hq29.pure kq_13
    replace hd_2 := hd_2.pure kq_13
    refine WL.extract rfl rfl rfl (?_)
    refine WL.nil (WX.one ⟨hd_2, ?_⟩)
    refine ⟨?_, trivial, trivial, trivial⟩
    refine DT.step [(21, _)] rfl ⟨rfl, trivial⟩ rfl (fun wq_14 kq_14 => ?_)
    have zs_kq_14 := kq_14.size
    replace hr := hr.pure kq_14
    replace hw := hw.pure kq_14
    replace hq29 := hq29.pure kq_14
    replace hd_2 := hd_2.pure kq_14
    refine WL.extract rfl rfl rfl (?_)
    refine WL.nil (WX.one ⟨hd_2, ?_⟩)
    refine ⟨?_, trivial, trivial⟩
    refine DT.step [(31, _)] rfl ⟨rfl, trivial⟩ rfl (fun wq_15 kq_15 => ?_)
    have zs_kq_15 := kq_15.size
    replace hr := hr.pure kq_15
    replace hw := hw.pure kq_15
    replace hq29 := hq29.pure kq_15
    replace hd_2 := hd_2.pure kq_15
    refine WL.assign rfl rfl (?_)
    refine WL.nil (WX.one ⟨hd_2, ?_⟩)
    refine ⟨?_, trivial⟩
    refine DT.step [(32, _)] rfl ⟨rfl, trivial⟩ rfl (fun wq_16 kq_16 => ?_)
    have zs_kq_16 := kq_16.size
    replace hr := hr.pure kq_16
    replace hw := hw.pure kq_16
    replace hq29 := hq29.pure kq_16
    replace hd_2 := hd_2.pure kq_16
    refine WL.assign rfl rfl (?_)
    refine WL.nil (WX.one ⟨hd_2, ?_⟩)
    refine DT.done (fun we_17 ke_17 => ?_) _
    have zs_ke_17 := ke_17.size
    replace hr := hr.pure ke_17
    replace hw := hw.pure ke_17
    replace hq29 := hq29.pure ke_17
    replace hd_2 := hd_2.pure ke_17
    rotate_left
    refine DT.step [(24, _)] rfl ⟨rfl, trivial⟩ rfl (fun wq_9 kq_9 => ?_)
    have zs_kq_9 := kq_9.size
    replace hr := hr.pure kq_9
    replace hw := hw.pure kq_9
    replace hq29 := hq29.pure kq_9
    replace hd_2 := hd_2.pure kq_9
    refine WL.make (e := erow) (⟨none, 0, []⟩ : Rw) kk kk Try.underlying22 info_23 rfl rfl rfl ⟨rfl, rfl, Nat.le_refl _⟩ (by rw [hkk]; split <;> constructor <;> omega) rfl ?_
    intro gm wm hm km zm em
    rw [List.length_replicate]
    have lgm : gm < wm.heap.size := hm.own.lt _ rfl
    have zs_km := km.size
    replace hr := hr.pure km
    replace hw := hw.pure km
    replace hq29 := hq29.pure km
    replace hd_2 := hd_2.pure km
    refine WL.nil (WX.one ⟨hd_2, ?_⟩)
    refine ⟨?_, trivial, trivial, trivial, trivial, trivial, trivial, trivial⟩
    refine DT.step [] rfl trivial rfl (fun wq_10 kq_10 => ?_)
    have zs_kq_10 := kq_10.size
    replace hr := hr.pure kq_10
    replace hw := hw.pure kq_10
    replace hq29 := hq29.pure kq_10
    replace hd_2 := hd_2.pure kq_10
    replace hm := hm.pure kq_10
    refine WL.call eg_13 rfl rfl (fresh_calls _) ?_
    rintro v w3 ⟨⟨gf, rfl, hF, hgf⟩, k3⟩
    have zk3 := k3.size
    have lgf := hF.lt
    have zs_k3 := k3.size
    replace hr := hr.pure k3
    replace hw := hw.pure k3
    replace hq29 := hq29.pure k3
    replace hd_2 := hd_2.pure k3
    replace hm := hm.pure k3
    refine WL.nil (WX.one ⟨hd_2, ?_⟩)
    refine ⟨?_, trivial, trivial, trivial, trivial, trivial, trivial⟩
    refine DT.step [(22, _), (25, _), (29, _)] rfl ⟨rfl, rfl, rfl, trivial⟩ rfl (fun wq_11 kq_11 => ?_)
    have zs_kq_11 := kq_11.size
    replace hr := hr.pure kq_11
    replace hw := hw.pure kq_11
    replace hq29 := hq29.pure kq_11
    replace hd_2 := hd_2.pure kq_11
    replace hm := hm.pure kq_11
    replace hF := hF.pure kq_11
    have hgmf : gm ≠ gf := by omega
    have hq29' := hq29
    have hRS : RS (fun b => b ≠ gf) _ (some ⟨gm, 0, none⟩) kk (List.replicate kk (⟨none, 0, []⟩ : Rw)) := ⟨⟨fun _ a ea => by injection ea with ea; rw [← ea]; exact hgmf, by rw [List.length_replicate]; exact Nat.le_refl _, hm.rsl.sl⟩, fun r hr => by
      rw [(List.mem_replicate.1 hr).2]
      exact RSl.nil _ _ _ _ _⟩
    have hcall := Solve_calls hF hRS (hq29'.mono (S' := fun b => b ≠ gf) (fun b hb => by omega)) (by rw [List.length_replicate]; omega) (by rw [List.length_take]; omega)
    rw [List.length_replicate] at hcall
    refine WL.call eg_14 rfl rfl (hcall) ?_
    rintro v w5 ⟨⟨ay, cy, out, e, rfl, hS, hY⟩, hF5, k5⟩
    have hns : ¬ ShapeOk (mx (List.replicate kk (⟨none, 0, []⟩ : Rw))) (rgt.take kk) := fun hs => by
      have h1 := hs.1
      rw [mx_len, List.length_replicate, hkk] at h1
      split at h1 <;> omega
    obtain ⟨rfl, rfl⟩ := SolR.bad hS hns
    have k5' := k5.mono (M' := fun x => w1.heap.size ≤ x) (fun x _ hx => by have h2 : x = gf := hx; show w1.heap.size ≤ x; omega)
    have zs_k5' := k5'.size
    replace hr := hr.chg k5' (by first | (intro x h1 h2; exact h2) | (intro x h1 h2; have h3 : _ = _ := h2; exfalso; omega) | (intro b h1 h2 h3; have h4 : _ = _ := h3; (try dsimp only at h2); exfalso; omega) | (intro h1; have h2 : _ = _ := h1; exfalso; omega) | (intros; exfalso; (try dsimp only at *); omega) | (intro b h1 h2 h3; exfalso; have h4 := h3.2; (try dsimp only at *); omega) | (intro h1; exfalso; have h4 := h1.2; (try dsimp only at *); omega))
    replace hw := hw.chg k5' (by first | (intro x h1 h2; exact h2) | (intro x h1 h2; have h3 : _ = _ := h2; exfalso; omega) | (intro b h1 h2 h3; have h4 : _ = _ := h3; (try dsimp only at h2); exfalso; omega) | (intro h1; have h2 : _ = _ := h1; exfalso; omega) | (intros; exfalso; (try dsimp only at *); omega) | (intro b h1 h2 h3; exfalso; have h4 := h3.2; (try dsimp only at *); omega) | (intro h1; exfalso; have h4 := h1.2; (try dsimp only at *); omega))
    replace hq29 := hq29.chg k5' (by first | (intro x h1 h2; exact h2) | (intro x h1 h2; have h3 : _ = _ := h2; exfalso; omega) | (intro b h1 h2 h3; have h4 : _ = _ := h3; (try dsimp only at h2); exfalso; omega) | (intro h1; have h2 : _ = _ := h1; exfalso; omega) | (intros; exfalso; (try dsimp only at *); omega) | (intro b h1 h2 h3; exfalso; have h4 := h3.2; (try dsimp only at *); omega) | (intro h1; exfalso; have h4 := h1.2; (try dsimp only at *); omega))
    replace hd_2 := hd_2.chg k5' (by first | (intro x h1 h2; exact h2) | (intro x h1 h2; have h3 : _ = _ := h2; exfalso; omega) | (intro b h1 h2 h3; have h4 : _ = _ := h3; (try dsimp only at h2); exfalso; omega) | (intro h1; have h2 : _ = _ := h1; exfalso; omega) | (intros; exfalso; (try dsimp only at *); omega) | (intro b h1 h2 h3; exfalso; have h4 := h3.2; (try dsimp only at *); omega) | (intro h1; exfalso; have h4 := h1.2; (try dsimp only at *); omega))
    refine WL.nil (WX.one ⟨hd_2, ?_⟩)
    refine ⟨?_, trivial, trivial, trivial, trivial, trivial⟩
    refine DT.step [(30, _)] rfl ⟨rfl, trivial⟩ rfl (fun wq_12 kq_12 => ?_)
    have zs_kq_12 := kq_12.size
    replace hr := hr.pure kq_12
    replace hw := hw.pure kq_12
    replace hq29 := hq29.pure kq_12
    replace hd_2 := hd_2.pure kq_12
    refine WL.move rfl rfl (?_)
    refine WL.nil (WX.one ⟨hd_2, ?_⟩)
    refine ⟨?_, ?_, trivial, trivial, trivial⟩
    refine DT.step [(21, _)] rfl ⟨rfl, trivial⟩ rfl (fun wq_13 kq_13 => ?_)
    have zs_kq_13 := kq_13.size
    replace hr := hr.pure kq_13
    replace hw := hw.pure kq_13
    replace hq29 := hq29.pure kq_13
    replace hd_2 := hd_2.pure kq_13
    refine WL.extract rfl rfl rfl (?_)
    refine WL.nil (WX.one ⟨hd_2, ?_⟩)
    refine ⟨?_, ?_, trivial, trivial⟩
    refine DT.step [(21, _)] rfl ⟨rfl, trivial⟩ rfl (fun wq_14 kq_14 => ?_)
    have zs_kq_14 := kq_14.size
    replace hr := hr.pure kq_14
    replace hw := hw.pure kq_14
    replace hq29 := hq29.pure kq_14
    replace hd_2 := hd_2.pure kq_14
    refine WL.extract rfl rfl rfl (?_)
    refine WL.nil (WX.one ⟨hd_2, ?_⟩)
    refine ⟨?_, trivial, trivial⟩
    refine DT.step [(31, _)] rfl ⟨rfl, trivial⟩ rfl (fun wq_15 kq_15 => ?_)
    have zs_kq_15 := kq_15.size
    replace hr := hr.pure kq_15
    replace hw := hw.pure kq_15
    replace hq29 := hq29.pure kq_15
    replace hd_2 := hd_2.pure kq_15
    refine WL.assign rfl rfl (?_)
    refine WL.nil (WX.one ⟨hd_2, ?_⟩)
    refine ⟨?_, trivial⟩
    refine DT.step [(32, _)] rfl ⟨rfl, trivial⟩ rfl (fun wq_16 kq_16 => ?_)
    have zs_kq_16 := kq_16.size
    replace hr := hr.pure kq_16
    replace hw := hw.pure kq_16
    replace hq29 := hq29.pure kq_16
    replace hd_2 := hd_2.pure kq_16
    refine WL.assign rfl rfl (?_)
    refine WL.nil (WX.one ⟨hd_2, ?_⟩)
    refine DT.done (fun we_17 ke_17 => ?_) _
    have zs_ke_17 := ke_17.size
    replace hr := hr.pure ke_17
    replace hw := hw.pure ke_17
    replace hq29 := hq29.pure ke_17
    replace hd_2 := hd_2.pure ke_17
    rotate_left
    refine DT.step [(31, _)] rfl ⟨rfl, trivial⟩ rfl (fun wq_14 kq_14 => ?_)
    have zs_kq_14 := kq_14.size
    replace hr := hr.pure kq_14
    replace hw := hw.pure kq_14
    replace hq29 := hq29.pure kq_14
    replace hd_2 := hd_2.pure kq_14
    refine WL.assign rfl rfl (?_)
    refine WL.nil (WX.one ⟨hd_2, ?_⟩)
    refine ⟨?_, trivial, trivial⟩
    refine DT.step [(21, _)] rfl ⟨rfl, trivial⟩ rfl (fun wq_15 kq_15 => ?_)
    have zs_kq_15 := kq_15.size
    replace hr := hr.pure kq_15
    replace hw := hw.pure kq_15
    replace hq29 := hq29.pure kq_15
    replace hd_2 := hd_2.pure kq_15
    refine WL.extract rfl rfl rfl (?_)
    refine WL.nil (WX.one ⟨hd_2, ?_⟩)
    refine ⟨?_, trivial⟩
    refine DT.step [(32, _)] rfl ⟨rfl, trivial⟩ rfl (fun wq_16 kq_16 => ?_)
    have zs_kq_16 := kq_16.size
    replace hr := hr.pure kq_16
    replace hw := hw.pure kq_16
    replace hq29 := hq29.pure kq_16
    replace hd_2 := hd_2.pure kq_16
    refine WL.assign rfl rfl (?_)
    refine WL.nil (WX.one ⟨hd_2, ?_⟩)
    refine DT.done (fun we_17 ke_17 => ?_) _
    have zs_ke_17 := ke_17.size
    replace hr := hr.pure ke_17
    replace hw := hw.pure ke_17
    replace hq29 := hq29.pure ke_17
    replace hd_2 := hd_2.pure ke_17
    rotate_left
    refine DT.step [(21, _)] rfl ⟨rfl, trivial⟩ rfl (fun wq_13 kq_13 => ?_)
    have zs_kq_13 := kq_13.size
    replace hr := hr.pure kq_13
    replace hw := hw.pure kq_13
    replace hq29 := hq29.pure kq_13
    replace hd_2 := hd_2.pure kq_13
    refine WL.extract rfl rfl rfl (?_)
    refine WL.nil (WX.one ⟨hd_2, ?_⟩)
    refine ⟨?_, trivial, trivial, trivial⟩
    refine DT.step [(21, _)] rfl ⟨rfl, trivial⟩ rfl (fun wq_14 kq_14 => ?_)
    have zs_kq_14 := kq_14.size
    replace hr := hr.pure kq_14
    replace hw := hw.pure kq_14
    replace hq29 := hq29.pure kq_14
    replace hd_2 := hd_2.pure kq_14
    refine WL.extract rfl rfl rfl (?_)
    refine WL.nil (WX.one ⟨hd_2, ?_⟩)
    refine ⟨?_, trivial, trivial⟩
    refine DT.step [(31, _)] rfl ⟨rfl, trivial⟩ rfl (fun wq_15 kq_15 => ?_)
    have zs_kq_15 := kq_15.size
    replace hr := hr.pure kq_15
    replace hw := hw.pure kq_15
    replace hq29 := hq29.pure kq_15
    replace hd_2 := hd_2.pure kq_15
    refine WL.assign rfl rfl (?_)
    refine WL.nil (WX.one ⟨hd_2, ?_⟩)
    refine ⟨?_, trivial⟩
    refine DT.step [(32, _)] rfl ⟨rfl, trivial⟩ rfl (fun wq_16 kq_16 => ?_)
    have zs_kq_16 := kq_16.size
    replace hr := hr.pure kq_16
    replace hw := hw.pure kq_16
    replace hq29 := hq29.pure kq_16
    replace hd_2 := hd_2.pure kq_16
    refine WL.assign rfl rfl (?_)
    refine WL.nil (WX.one ⟨hd_2, ?_⟩)
    refine DT.done (fun we_17 ke_17 => ?_) _
    have zs_ke_17 := ke_17.size
    replace hr := hr.pure ke_17
    replace hw := hw.pure ke_17
    replace hq29 := hq29.pure ke_17
    replace hd_2 := hd_2.pure ke_17
    rotate_left
    all_goals
      refine WX.then_normal (WC.seq (WC.region (WL.move rfl rfl (?_))))
      refine WL.eqlT rfl rfl rfl (by first | rfl | omega | decide) ?_
      refine WL.assign rfl rfl (WL.nil (WX.then_normal (WC.ret (WX.then_ret (?_)))))
      refine WX.ret1 (.inl rfl) Try.results6 rfl ?_
      exact ⟨_, rfl, rfl, hw⟩
  ·
    refine WL.move rfl rfl (WL.want rfl rfl rfl (WL.move rfl rfl (WL.want rfl rfl rfl (?_))))
    refine WL.gtr? rfl rfl rfl (fun h19 => ?_) (fun h19 => ?_)
    ·
      refine WL.pickF rfl rfl rfl (WL.nil (WX.then_normal (WC.cond_true rfl (WC.seq (?_)))))
      have hbad : rgt.length < 1 ∨ 8 < rgt.length := by omega
      have hq29 := hr.cut 0 kk ⟨Nat.zero_le _, hkl⟩
      rw [ek] at hq29
      refine WC.drawM ((fun x => w1.heap.size ≤ x)) [1, 2, 4, 5, 6, 7] [0, 3, 8, 9, 10, 11, 12, 13] mixed rfl rfl (fun wd_1 kd_1 zd_1 => ?_)
      have zs_kd_1 := kd_1.size
      replace hr := hr.pure kd_1
      replace hw := hw.pure kd_1
      replace hq29 := hq29.pure kd_1
      apply DQT.step (E' := [(3, _)])
      case ho => rfl
      case hs => exact ⟨rfl, trivial⟩
      case hk => rfl
      case h1 =>
        intro wq_3 kq_3
        refine WL.move rfl rfl (?_)
        refine WL.nil ?_
        exact WX.one ⟨rfl, by first | exact Chg.refl _ _ | assumption⟩
      apply DQT.step (E' := [(23, _)])
      case ho => rfl
      case hs => exact ⟨rfl, trivial⟩
      case hk => rfl
      case h1 =>
        intro wq_4 kq_4
        have zs_kq_4 := kq_4.size
        replace hr := hr.chg kq_4 (by first | (intro x h1 h2; exact h2) | (intro x h1 h2; have h3 : _ = _ := h2; exfalso; omega) | (intro b h1 h2 h3; have h4 : _ = _ := h3; (try dsimp only at h2); exfalso; omega) | (intro h1; have h2 : _ = _ := h1; exfalso; omega) | (intros; exfalso; (try dsimp only at *); omega) | (intro b h1 h2 h3; exfalso; have h4 := h3.2; (try dsimp only at *); omega) | (intro h1; exfalso; have h4 := h1.2; (try dsimp only at *); omega))
        replace hq29 := hq29.chg kq_4 (by first | (intro x h1 h2; exact h2) | (intro x h1 h2; have h3 : _ = _ := h2; exfalso; omega) | (intro b h1 h2 h3; have h4 : _ = _ := h3; (try dsimp only at h2); exfalso; omega) | (intro h1; have h2 : _ = _ := h1; exfalso; omega) | (intros; exfalso; (try dsimp only at *); omega) | (intro b h1 h2 h3; exfalso; have h4 := h3.2; (try dsimp only at *); omega) | (intro h1; exfalso; have h4 := h1.2; (try dsimp only at *); omega))
        refine WL.mini rfl rfl rfl ?_
        rw [hkI]
        refine WL.nil ?_
        exact WX.one ⟨rfl, by first | exact Chg.refl _ _ | assumption⟩
      apply DQT.step (E' := [(0, _)])
      case ho => rfl
      case hs => exact ⟨rfl, trivial⟩
      case hk => rfl
      case h1 =>
        intro wq_5 kq_5
        refine WL.move rfl rfl (?_)
        refine WL.nil ?_
        exact WX.one ⟨rfl, by first | exact Chg.refl _ _ | assumption⟩
      apply DQT.step (E' := [(3, _)])
      case ho => rfl
      case hs => exact ⟨rfl, trivial⟩
      case hk => rfl
      case h1 =>
        intro wq_6 kq_6
        refine WL.move rfl rfl (?_)
        refine WL.nil ?_
        exact WX.one ⟨rfl, by first | exact Chg.refl _ _ | assumption⟩
      apply DQT.step (E' := [(27, _)])
      case ho => rfl
      case hs => exact ⟨rfl, trivial⟩
      case hk => rfl
      case h1 =>
        intro wq_7 kq_7
        have zs_kq_7 := kq_7.size
        replace hr := hr.chg kq_7 (by first | (intro x h1 h2; exact h2) | (intro x h1 h2; have h3 : _ = _ := h2; exfalso; omega) | (intro b h1 h2 h3; have h4 : _ = _ := h3; (try dsimp only at h2); exfalso; omega) | (intro h1; have h2 : _ = _ := h1; exfalso; omega) | (intros; exfalso; (try dsimp only at *); omega) | (intro b h1 h2 h3; exfalso; have h4 := h3.2; (try dsimp only at *); omega) | (intro h1; exfalso; have h4 := h1.2; (try dsimp only at *); omega))
        replace hq29 := hq29.chg kq_7 (by first | (intro x h1 h2; exact h2) | (intro x h1 h2; have h3 : _ = _ := h2; exfalso; omega) | (intro b h1 h2 h3; have h4 : _ = _ := h3; (try dsimp only at h2); exfalso; omega) | (intro h1; have h2 : _ = _ := h1; exfalso; omega) | (intros; exfalso; (try dsimp only at *); omega) | (intro b h1 h2 h3; exfalso; have h4 := h3.2; (try dsimp only at *); omega) | (intro h1; exfalso; have h4 := h1.2; (try dsimp only at *); omega))
        refine WL.mini rfl rfl rfl ?_
        rw [hkI]
        refine WL.nil ?_
        exact WX.one ⟨rfl, by first | exact Chg.refl _ _ | assumption⟩
      apply DQT.step (E' := [(26, _), (28, _)])
      case ho => rfl
      case hs => exact ⟨rfl, rfl, trivial⟩
      case hk => rfl
      case h1 =>
        intro wq_8 kq_8
        have zs_kq_8 := kq_8.size
        replace hr := hr.chg kq_8 (by first | (intro x h1 h2; exact h2) | (intro x h1 h2; have h3 : _ = _ := h2; exfalso; omega) | (intro b h1 h2 h3; have h4 : _ = _ := h3; (try dsimp only at h2); exfalso; omega) | (intro h1; have h2 : _ = _ := h1; exfalso; omega) | (intros; exfalso; (try dsimp only at *); omega) | (intro b h1 h2 h3; exfalso; have h4 := h3.2; (try dsimp only at *); omega) | (intro h1; exfalso; have h4 := h1.2; (try dsimp only at *); omega))
        replace hq29 := hq29.chg kq_8 (by first | (intro x h1 h2; exact h2) | (intro x h1 h2; have h3 : _ = _ := h2; exfalso; omega) | (intro b h1 h2 h3; have h4 : _ = _ := h3; (try dsimp only at h2); exfalso; omega) | (intro h1; have h2 : _ = _ := h1; exfalso; omega) | (intros; exfalso; (try dsimp only at *); omega) | (intro b h1 h2 h3; exfalso; have h4 := h3.2; (try dsimp only at *); omega) | (intro h1; exfalso; have h4 := h1.2; (try dsimp only at *); omega))
        refine WL.sliceC (l := 0) (h := kk) (k := .i64) Try.underlying23 Try.sizeOf5 hr rfl (.inr ⟨rfl, rfl⟩) (.inl rfl) (by constructor <;> omega) rfl ?_
        rw [ek]
        refine WL.nil ?_
        exact WX.one ⟨rfl, by first | exact Chg.refl _ _ | assumption⟩
      refine DQT.done (fun hd_2 => ?_)
      refine ⟨?_, ?_, trivial, trivial, trivial, trivial, trivial, trivial, trivial⟩
      refine DT.step [] rfl trivial rfl (fun wq_9 kq_9 => ?_)
      have zs_kq_9 := kq_9.size
      replace hr := hr.pure kq_9
      replace hw := hw.pure kq_9
      replace hq29 := hq29.pure kq_9
      replace hd_2 := hd_2.pure kq_9
      refine WL.call eg_13 rfl rfl (fresh_calls _) ?_
      rintro v w3 ⟨⟨gf, rfl, hF, hgf⟩, k3⟩
      have zk3 := k3.size
      have lgf := hF.lt
      have zs_k3 := k3.size
      replace hr := hr.pure k3
      replace hw := hw.pure k3
      replace hq29 := hq29.pure k3
      replace hd_2 := hd_2.pure k3
      refine WL.nil (WX.one ⟨hd_2, ?_⟩)
      refine ⟨?_, trivial, trivial, trivial, trivial, trivial, trivial, trivial⟩
      refine DT.step [(24, _)] rfl ⟨rfl, trivial⟩ rfl (fun wq_10 kq_10 => ?_)
      have zs_kq_10 := kq_10.size
      replace hr := hr.pure kq_10
      replace hw := hw.pure kq_10
      replace hq29 := hq29.pure kq_10
      replace hd_2 := hd_2.pure kq_10
      replace hF := hF.pure kq_10
      refine WL.make (e := erow) (⟨none, 0, []⟩ : Rw) kk kk Try.underlying22 info_23 rfl rfl rfl ⟨rfl, rfl, Nat.le_refl _⟩ (by rw [hkk]; split <;> constructor <;> omega) rfl ?_
      intro gm wm hm km zm em
      rw [List.length_replicate]
      have lgm : gm < wm.heap.size := hm.own.lt _ rfl
      have zs_km := km.size
      replace hr := hr.pure km
      replace hw := hw.pure km
      replace hq29 := hq29.pure km
      replace hd_2 := hd_2.pure km
      replace hF := hF.pure km
      refine WL.nil (WX.one ⟨hd_2, ?_⟩)
      refine ⟨?_, trivial, trivial, trivial, trivial, trivial, trivial⟩
      refine DT.step [(22, _), (25, _), (29, _)] rfl ⟨rfl, rfl, rfl, trivial⟩ rfl (fun wq_11 kq_11 => ?_)
      have zs_kq_11 := kq_11.size
      replace hr := hr.pure kq_11
      replace hw := hw.pure kq_11
      replace hq29 := hq29.pure kq_11
      replace hd_2 := hd_2.pure kq_11
      replace hF := hF.pure kq_11
      replace hm := hm.pure kq_11
      have hgmf : gm ≠ gf := by omega
      have hq29' := hq29
      have hRS : RS (fun b => b ≠ gf) _ (some ⟨gm, 0, none⟩) kk (List.replicate kk (⟨none, 0, []⟩ : Rw)) := ⟨⟨fun _ a ea => by injection ea with ea; rw [← ea]; exact hgmf, by rw [List.length_replicate]; exact Nat.le_refl _, hm.rsl.sl⟩, fun r hr => by
        rw [(List.mem_replicate.1 hr).2]
        exact RSl.nil _ _ _ _ _⟩
      have hcall := Solve_calls hF hRS (hq29'.mono (S' := fun b => b ≠ gf) (fun b hb => by omega)) (by rw [List.length_replicate]; omega) (by rw [List.length_take]; omega)
      rw [List.length_replicate] at hcall
      refine WL.call eg_14 rfl rfl (hcall) ?_
      rintro v w5 ⟨⟨ay, cy, out, e, rfl, hS, hY⟩, hF5, k5⟩
      have hns : ¬ ShapeOk (mx (List.replicate kk (⟨none, 0, []⟩ : Rw))) (rgt.take kk) := fun hs => by
        have h1 := hs.1
        rw [mx_len, List.length_replicate, hkk] at h1
        split at h1 <;> omega
      obtain ⟨rfl, rfl⟩ := SolR.bad hS hns
      have k5' := k5.mono (M' := fun x => w1.heap.size ≤ x) (fun x _ hx => by have h2 : x = gf := hx; show w1.heap.size ≤ x; omega)
      have zs_k5' := k5'.size
      replace hr := hr.chg k5' (by first | (intro x h1 h2; exact h2) | (intro x h1 h2; have h3 : _ = _ := h2; exfalso; omega) | (intro b h1 h2 h3; have h4 : _ = _ := h3; (try dsimp only at h2); exfalso; omega) | (intro h1; have h2 : _ = _ := h1; exfalso; omega) | (intros; exfalso; (try dsimp only at *); omega) | (intro b h1 h2 h3; exfalso; have h4 := h3.2; (try dsimp only at *); omega) | (intro h1; exfalso; have h4 := h1.2; (try dsimp only at *); omega))
      replace hw := hw.chg k5' (by first | (intro x h1 h2; exact h2) | (intro x h1 h2; have h3 : _ = _ := h2; exfalso; omega) | (intro b h1 h2 h3; have h4 : _ = _ := h3; (try dsimp only at h2); exfalso; omega) | (intro h1; have h2 : _ = _ := h1; exfalso; omega) | (intros; exfalso; (try dsimp only at *); omega) | (intro b h1 h2 h3; exfalso; have h4 := h3.2; (try dsimp only at *); omega) | (intro h1; exfalso; have h4 := h1.2; (try dsimp only at *); omega))
      replace hq29 := hq29.chg k5' (by first | (intro x h1 h2; exact h2) | (intro x h1 h2; have h3 : _ = _ := h2; exfalso; omega) | (intro b h1 h2 h3; have h4 : _ = _ := h3; (try dsimp only at h2); exfalso; omega) | (intro h1; have h2 : _ = _ := h1; exfalso; omega) | (intros; exfalso; (try dsimp only at *); omega) | (intro b h1 h2 h3; exfalso; have h4 := h3.2; (try dsimp only at *); omega) | (intro h1; exfalso; have h4 := h1.2; (try dsimp only at *); omega))
      replace hd_2 := hd_2.chg k5' (by first | (intro x h1 h2; exact h2) | (intro x h1 h2; have h3 : _ = _ := h2; exfalso; omega) | (intro b h1 h2 h3; have h4 : _ = _ := h3; (try dsimp only at h2); exfalso; omega) | (intro h1; have h2 : _ = _ := h1; exfalso; omega) | (intros; exfalso; (try dsimp only at *); omega) | (intro b h1 h2 h3; exfalso; have h4 := h3.2; (try dsimp only at *); omega) | (intro h1; exfalso; have h4 := h1.2; (try dsimp only at *); omega))
      refine WL.nil (WX.one ⟨hd_2, ?_⟩)
      refine ⟨?_, trivial, trivial, trivial, trivial, trivial⟩
      refine DT.step [(30, _)] rfl ⟨rfl, trivial⟩ rfl (fun wq_12 kq_12 => ?_)
      have zs_kq_12 := kq_12.size
      replace hr := hr.pure kq_12
      replace hw := hw.pure kq_12
      replace hq29 := hq29.pure kq_12
      replace hd_2 := hd_2.pure kq_12
      refine WL.move rfl rfl (?_)
      refine WL.nil (WX.one ⟨hd_2, ?_⟩)
      refine ⟨?_, ?_, trivial, trivial, trivial⟩
      refine DT.step [(21, _)] rfl ⟨rfl, trivial⟩ rfl (fun wq_13 kq_13 => ?_)
      have zs_kq_13 := kq_13.size
      replace hr := hr.pure kq_13
      replace hw := hw.pure kq_13
      replace hq29 := hq29.pure kq_13
      replace hd_2 := hd_2.pure kq_13
      refine WL.extract rfl rfl rfl (?_)
      refine WL.nil (WX.one ⟨hd_2, ?_⟩)
      refine ⟨?_, ?_, trivial, trivial⟩
      refine DT.step [(21, _)] rfl ⟨rfl, trivial⟩ rfl (fun wq_14 kq_14 => ?_)
      have zs_kq_14 := kq_14.size
      replace hr := hr.pure kq_14
      replace hw := hw.pure kq_14
      replace hq29 := hq29.pure kq_14
      replace hd_2 := hd_2.pure kq_14
      refine WL.extract rfl rfl rfl (?_)
      refine WL.nil (WX.one ⟨hd_2, ?_⟩)
      refine ⟨?_, trivial, trivial⟩
      refine DT.step [(31, _)] rfl ⟨rfl, trivial⟩ rfl (fun wq_15 kq_15 => ?_)
      have zs_kq_15 := kq_15.size
      replace hr := hr.pure kq_15
      replace hw := hw.pure kq_15
      replace hq29 := hq29.pure kq_15
      replace hd_2 := hd_2.pure kq_15
      refine WL.assign rfl rfl (?_)
      refine WL.nil (WX.one ⟨hd_2, ?_⟩)
      refine ⟨?_, trivial⟩
      refine DT.step [(32, _)] rfl ⟨rfl, trivial⟩ rfl (fun wq_16 kq_16 => ?_)
      have zs_kq_16 := kq_16.size
      replace hr := hr.pure kq_16
      replace hw := hw.pure kq_16
      replace hq29 := hq29.pure kq_16
      replace hd_2 := hd_2.pure kq_16
      refine WL.assign rfl rfl (?_)
      refine WL.nil (WX.one ⟨hd_2, ?_⟩)
      refine DT.done (fun we_17 ke_17 => ?_) _
      have zs_ke_17 := ke_17.size
      replace hr := hr.pure ke_17
      replace hw := hw.pure ke_17
      replace hq29 := hq29.pure ke_17
      replace hd_2 := hd_2.pure ke_17
      rotate_left
      refine DT.step [(31, _)] rfl ⟨rfl, trivial⟩ rfl (fun wq_14 kq_14 => ?_)
      have zs_kq_14 := kq_14.size
      replace hr := hr.pure kq_14
      replace hw := hw.pure kq_14
      replace hq29 := hq29.pure kq_14
      replace hd_2 := hd_2.pure kq_14
      refine WL.assign rfl rfl (?_)
      refine WL.nil (WX.one ⟨hd_2, ?_⟩)
      refine ⟨?_, trivial, trivial⟩
      refine DT.step [(21, _)] rfl ⟨rfl, trivial⟩ rfl (fun wq_15 kq_15 => ?_)
      have zs_kq_15 := kq_15.size
      replace hr := hr.pure kq_15
      replace hw := hw.pure kq_15
      replace hq29 := hq29.pure kq_15
      replace hd_2 := hd_2.pure kq_15
      refine WL.extract rfl rfl rfl (?_)
      refine WL.nil (WX.one ⟨hd_2, ?_⟩)
      refine ⟨?_, trivial⟩
      refine DT.step [(32, _)] rfl ⟨rfl, trivial⟩ rfl (fun wq_16 kq_16 => ?_)
      have zs_kq_16 := kq_16.size
      replace hr := hr.pure kq_16
      replace hw := hw.pure kq_16
      replace hq29 := hq29.pure kq_16
      replace hd_2 := hd_2.pure kq_16
      refine WL.assign rfl rfl (?_)
      refine WL.nil (WX.one ⟨hd_2, ?_⟩)
      refine DT.done (fun we_17 ke_17 => ?_) _
      have zs_ke_17 := ke_17.size
      replace hr := hr.pure ke_17
      replace hw := hw.pure ke_17
      replace hq29 := hq29.pure ke_17
      replace hd_2 := hd_2.pure ke_17
      rotate_left
      refine DT.step [(21, _)] rfl ⟨rfl, trivial⟩ rfl (fun wq_13 kq_13 => ?_)
      have zs_kq_13 := kq_13.size
      replace hr := hr.pure kq_13
      replace hw := hw.pure kq_13
      replace hq29 := hq29.pure kq_13
      replace hd_2 := hd_2.pure kq_13
      refine WL.extract rfl rfl rfl (?_)
      refine WL.nil (WX.one ⟨hd_2, ?_⟩)
      refine ⟨?_, trivial, trivial, trivial⟩
      refine DT.step [(21, _)] rfl ⟨rfl, trivial⟩ rfl (fun wq_14 kq_14 => ?_)
      have zs_kq_14 := kq_14.size
      replace hr := hr.pure kq_14
      replace hw := hw.pure kq_14
      replace hq29 := hq29.pure kq_14
      replace hd_2 := hd_2.pure kq_14
      refine WL.extract rfl rfl rfl (?_)
      refine WL.nil (WX.one ⟨hd_2, ?_⟩)
      refine ⟨?_, trivial, trivial⟩
      refine DT.step [(31, _)] rfl ⟨rfl, trivial⟩ rfl (fun wq_15 kq_15 => ?_)
      have zs_kq_15 := kq_15.size
      replace hr := hr.pure kq_15
      replace hw := hw.pure kq_15
      replace hq29 := hq29.pure kq_15
      replace hd_2 := hd_2.pure kq_15
      refine WL.assign rfl rfl (?_)
      refine WL.nil (WX.one ⟨hd_2, ?_⟩)
      refine ⟨?_, trivial⟩
      refine DT.step [(32, _)] rfl ⟨rfl, trivial⟩ rfl (fun wq_16 kq_16 => ?_)
      have zs_kq_16 := kq_16.size
      replace hr := hr.pure kq_16
      replace hw := hw.pure kq_16
      replace hq29 := hq29.pure kq_16
      replace hd_2 := hd_2.pure kq_16
      refine WL.assign rfl rfl (?_)
      refine WL.nil (WX.one ⟨hd_2, ?_⟩)
      refine DT.done (fun we_17 ke_17 => ?_) _
      have zs_ke_17 := ke_17.size
      replace hr := hr.pure ke_17
      replace hw := hw.pure ke_17
      replace hq29 := hq29.pure ke_17
      replace hd_2 := hd_2.pure ke_17
      rotate_left
      refine DT.step [(24, _)] rfl ⟨rfl, trivial⟩ rfl (fun wq_9 kq_9 => ?_)
      have zs_kq_9 := kq_9.size
      replace hr := hr.pure kq_9
      replace hw := hw.pure kq_9
      replace hq29 := hq29.pure kq_9
      replace hd_2 := hd_2.pure kq_9
      refine WL.make (e := erow) (⟨none, 0, []⟩ : Rw) kk kk Try.underlying22 info_23 rfl rfl rfl ⟨rfl, rfl, Nat.le_refl _⟩ (by rw [hkk]; split <;> constructor <;> omega) rfl ?_
      intro gm wm hm km zm em
      rw [List.length_replicate]
      have lgm : gm < wm.heap.size := hm.own.lt _ rfl
      have zs_km := km.size
      replace hr := hr.pure km
      replace hw := hw.pure km
      replace hq29 := hq29.pure km
      replace hd_2 := hd_2.pure km
      refine WL.nil (WX.one ⟨hd_2, ?_⟩)
      refine ⟨?_, trivial, trivial, trivial, trivial, trivial, trivial, trivial⟩
      refine DT.step [] rfl trivial rfl (fun wq_10 kq_10 => ?_)
      have zs_kq_10 := kq_10.size
      replace hr := hr.pure kq_10
      replace hw := hw.pure kq_10
      replace hq29 := hq29.pure kq_10
      replace hd_2 := hd_2.pure kq_10
      replace hm := hm.pure kq_10
      refine WL.call eg_13 rfl rfl (fresh_calls _) ?_
      rintro v w3 ⟨⟨gf, rfl, hF, hgf⟩, k3⟩
      have zk3 := k3.size
      have lgf := hF.lt
      have zs_k3 := k3.size
      replace hr := hr.pure k3
      replace hw := hw.pure k3
      replace hq29 := hq29.pure k3
      replace hd_2 := hd_2.pure k3
      replace hm := hm.pure k3
      refine WL.nil (WX.one ⟨hd_2, ?_⟩)
      refine ⟨?_, trivial, trivial, trivial, trivial, trivial, trivial⟩
      refine DT.step [(22, _), (25, _), (29, _)] rfl ⟨rfl, rfl, rfl, trivial⟩ rfl (fun wq_11 kq_11 => ?_)
      have zs_kq_11 := kq_11.size
      replace hr := hr.pure kq_11
      replace hw := hw.pure kq_11
      replace hq29 := hq29.pure kq_11
      replace hd_2 := hd_2.pure kq_11
      replace hm := hm.pure kq_11
      replace hF := hF.pure kq_11
      have hgmf : gm ≠ gf := by omega
      have hq29' := hq29
      have hRS : RS (fun b => b ≠ gf) _ (some ⟨gm, 0, none⟩) kk (List.replicate kk (⟨none, 0, []⟩ : Rw)) := ⟨⟨fun _ a ea => by injection ea with ea; rw [← ea]; exact hgmf, by rw [List.length_replicate]; exact Nat.le_refl _, hm.rsl.sl⟩, fun r hr => by
        rw [(List.mem_replicate.1 hr).2]
        exact RSl.nil _ _ _ _ _⟩
      have hcall := Solve_calls hF hRS (hq29'.mono (S' := fun b => b ≠ gf) (fun b hb => by omega)) (by rw [List.length_replicate]; omega) (by rw [List.length_take]; omega)
      rw [List.length_replicate] at hcall
      refine WL.call eg_14 rfl rfl (hcall) ?_
      rintro v w5 ⟨⟨ay, cy, out, e, rfl, hS, hY⟩, hF5, k5⟩
      have hns : ¬ ShapeOk (mx (List.replicate kk (⟨none, 0, []⟩ : Rw))) (rgt.take kk) := fun hs => by
        have h1 := hs.1
        rw [mx_len, List.length_replicate, hkk] at h1
        split at h1 <;> omega
      obtain ⟨rfl, rfl⟩ := SolR.bad hS hns
      have k5' := k5.mono (M' := fun x => w1.heap.size ≤ x) (fun x _ hx => by have h2 : x = gf := hx; show w1.heap.size ≤ x; omega)
      have zs_k5' := k5'.size
      replace hr := hr.chg k5' (by first | (intro x h1 h2; exact h2) | (intro x h1 h2; have h3 : _ = _ := h2; exfalso; omega) | (intro b h1 h2 h3; have h4 : _ = _ := h3; (try dsimp only at h2); exfalso; omega) | (intro h1; have h2 : _ = _ := h1; exfalso; omega) | (intros; exfalso; (try dsimp only at *); omega) | (intro b h1 h2 h3; exfalso; have h4 := h3.2; (try dsimp only at *); omega) | (intro h1; exfalso; have h4 := h1.2; (try dsimp only at *); omega))
      replace hw := hw.chg k5' (by first | (intro x h1 h2; exact h2) | (intro x h1 h2; have h3 : _ = _ := h2; exfalso; omega) | (intro b h1 h2 h3; have h4 : _ = _ := h3; (try dsimp only at h2); exfalso; omega) | (intro h1; have h2 : _ = _ := h1; exfalso; omega) | (intros; exfalso; (try dsimp only at *); omega) | (intro b h1 h2 h3; exfalso; have h4 := h3.2; (try dsimp only at *); omega) | (intro h1; exfalso; have h4 := h1.2; (try dsimp only at *); omega))
      replace hq29 := hq29.chg k5' (by first | (intro x h1 h2; exact h2) | (intro x h1 h2; have h3 : _ = _ := h2; exfalso; omega) | (intro b h1 h2 h3; have h4 : _ = _ := h3; (try dsimp only at h2); exfalso; omega) | (intro h1; have h2 : _ = _ := h1; exfalso; omega) | (intros; exfalso; (try dsimp only at *); omega) | (intro b h1 h2 h3; exfalso; have h4 := h3.2; (try dsimp only at *); omega) | (intro h1; exfalso; have h4 := h1.2; (try dsimp only at *); omega))
      replace hd_2 := hd_2.chg k5' (by first | (intro x h1 h2; exact h2) | (intro x h1 h2; have h3 : _ = _ := h2; exfalso; omega) | (intro b h1 h2 h3; have h4 : _ = _ := h3; (try dsimp only at h2); exfalso; omega) | (intro h1; have h2 : _ = _ := h1; exfalso; omega) | (intros; exfalso; (try dsimp only at *); omega) | (intro b h1 h2 h3; exfalso; have h4 := h3.2; (try dsimp only at *); omega) | (intro h1; exfalso; have h4 := h1.2; (try dsimp only at *); omega))
      refine WL.nil (WX.one ⟨hd_2, ?_⟩)
      refine ⟨?_, trivial, trivial, trivial, trivial, trivial⟩
      refine DT.step [(30, _)] rfl ⟨rfl, trivial⟩ rfl (fun wq_12 kq_12 => ?_)
      have zs_kq_12 := kq_12.size
      replace hr := hr.pure kq_12
      replace hw := hw.pure kq_12
      replace hq29 := hq29.pure kq_12
      replace hd_2 := hd_2.pure kq_12
      refine WL.move rfl rfl (?_)
      refine WL.nil (WX.one ⟨hd_2, ?_⟩)
      refine ⟨?_, ?_, trivial, trivial, trivial⟩
      refine DT.step [(21, _)] rfl ⟨rfl, trivial⟩ rfl (fun wq_13 kq_13 => ?_)
      have zs_kq_13 := kq_13.size
      replace hr := hr.pure kq_13
      replace hw := hw.pure kq_13
      replace hq29 := hq29.pure kq_13
      replace hd_2 := hd_2.pure kq_13
      refine WL.extract rfl rfl rfl (?_)
      refine WL.nil (WX.one ⟨hd_2, ?_⟩)
      refine ⟨?_, ?_, trivial, trivial⟩
      refine DT.step [(21, _)] rfl ⟨rfl, trivial⟩ rfl (fun wq_14 kq_14 => ?_)
      have zs_kq_14 := kq_14.size
      replace hr := hr.pure kq_14
      replace hw := hw.pure kq_14
      replace hq29 := hq29.pure kq_14
      replace hd_2 := hd_2.pure kq_14
      refine WL.extract rfl rfl rfl (?_)
      refine WL.nil (WX.one ⟨hd_2, ?_⟩)
      refine ⟨?_, trivial, trivial⟩
      refine DT.step [(31, _)] rfl ⟨rfl, trivial⟩ rfl (fun wq_15 kq_15 => ?_)
      have zs_kq_15 := kq_15.size
      replace hr := hr.pure kq_15
      replace hw := hw.pure kq_15
      replace hq29 := hq29.pure kq_15
      replace hd_2 := hd_2.pure kq_15
      refine WL.assign rfl rfl (?_)
      refine WL.nil (WX.one ⟨hd_2, ?_⟩)
      refine ⟨?_, trivial⟩
      refine DT.step [(32, _)] rfl ⟨rfl, trivial⟩ rfl (fun wq_16 kq_16 => ?_)
      have zs_kq_16 := kq_16.size
      replace hr := hr.pure kq_16
      replace hw := hw.pure kq_16
      replace hq29 := hq29.pure kq_16
      replace hd_2 := hd_2.pure kq_16
      refine WL.assign rfl rfl (?_)
      refine WL.nil (WX.one ⟨hd_2, ?_⟩)
      refine DT.done (fun we_17 ke_17 => ?_) _
      have zs_ke_17 := ke_17.size
      replace hr := hr.pure ke_17
      replace hw := hw.pure ke_17
      replace hq29 := hq29.pure ke_17
      replace hd_2 := hd_2.pure ke_17
      rotate_left
      refine DT.step [(31, _)] rfl ⟨rfl, trivial⟩ rfl (fun wq_14 kq_14 => ?_)
      have zs_kq_14 := kq_14.size
      replace hr := hr.pure kq_14
      replace hw := hw.pure kq_14
      replace hq29 := hq29.pure kq_14
      replace hd_2 := hd_2.pure kq_14
      refine WL.assign rfl rfl (?_)
      refine WL.nil (WX.one ⟨hd_2, ?_⟩)
      refine ⟨?_, trivial, trivial⟩
      refine DT.step [(21, _)] rfl ⟨rfl, trivial⟩ rfl (fun wq_15 kq_15 => ?_)
      have zs_kq_15 := kq_15.size
      replace hr := hr.pure kq_15
      replace hw := hw.pure kq_15
      replace hq29 := hq29.pure kq_15
      replace hd_2 := hd_2.pure kq_15
      refine WL.extract rfl rfl rfl (?_)
      refine WL.nil (WX.one ⟨hd_2, ?_⟩)
      refine ⟨?_, trivial⟩
      refine DT.step [(32, _)] rfl ⟨rfl, trivial⟩ rfl (fun wq_16 kq_16 => ?_)
      have zs_kq_16 := kq_16.size
      replace hr := hr.pure kq_16
      replace hw := hw.pure kq_16
      replace hq29 := hq29.pure kq_16
      replace hd_2 := hd_2.pure kq_16
      refine WL.assign rfl rfl (?_)
      refine WL.nil (WX.one ⟨hd_2, ?_⟩)
      refine DT.done (fun we_17 ke_17 => ?_) _
      have zs_ke_17 := ke_17.size
      replace hr := hr.pure ke_17
      replace hw := hw.pure ke_17
      replace hq29 := hq29.pure ke_17
      replace hd_2 := hd_2.pure ke_17
      rotate_left
      refine DT.step [(21, _)] rfl ⟨rfl, trivial⟩ rfl (fun wq_13 kq_13 => ?_)
      have zs_kq_13 := kq_13.size
      replace hr := hr.pure kq_13
      replace hw := hw.pure kq_13
      replace hq29 := hq29.pure kq_13
      replace hd_2 := hd_2.pure kq_13
      refine WL.extract rfl rfl rfl (?_)
      refine WL.nil (WX.one ⟨hd_2, ?_⟩)
      refine ⟨?_, trivial, trivial, trivial⟩
      refine DT.step [(21, _)] rfl ⟨rfl, trivial⟩ rfl (fun wq_14 kq_14 => ?_)
      have zs_kq_14 := kq_14.size
      replace hr := hr.pure kq_14
      replace hw := hw.pure kq_14
      replace hq29 := hq29.pure kq_14
      replace hd_2 := hd_2.pure kq_14
      refine WL.extract rfl rfl rfl (?_)
      refine WL.nil (WX.one ⟨hd_2, ?_⟩)
      refine ⟨?_, trivial, trivial⟩
      refine DT.step [(31, _)] rfl ⟨rfl, trivial⟩ rfl (fun wq_15 kq_15 => ?_)
      have zs_kq_15 := kq_15.size
      replace hr := hr.pure kq_15
      replace hw := hw.pure kq_15
      replace hq29 := hq29.pure kq_15
      replace hd_2 := hd_2.pure kq_15
      refine WL.assign rfl rfl (?_)
      refine WL.nil (WX.one ⟨hd_2, ?_⟩)
      refine ⟨?_, trivial⟩
      refine DT.step [(32, _)] rfl ⟨rfl, trivial⟩ rfl (fun wq_16 kq_16 => ?_)
      have zs_kq_16 := kq_16.size
      replace hr := hr.pure kq_16
      replace hw := hw.pure kq_16
      replace hq29 := hq29.pure kq_16
      replace hd_2 := hd_2.pure kq_16
      refine WL.assign rfl rfl (?_)
      refine WL.nil (WX.one ⟨hd_2, ?_⟩)
      refine DT.done (fun we_17 ke_17 => ?_) _
      have zs_ke_17 := ke_17.size
      replace hr := hr.pure ke_17
      replace hw := hw.pure ke_17
      replace hq29 := hq29.pure ke_17
      replace hd_2 := hd_2.pure ke_17
      rotate_left
      all_goals
        refine WX.then_normal (WC.seq (WC.region (WL.move rfl rfl (?_))))
        refine WL.eqlT rfl rfl rfl (by first | rfl | omega | decide) ?_
        refine WL.assign rfl rfl (WL.nil (WX.then_normal (WC.ret (WX.then_ret (?_)))))
        refine WX.ret1 (.inl rfl) Try.results6 rfl ?_
        exact ⟨_, rfl, rfl, hw⟩
    ·
      refine WL.pickF rfl rfl rfl (WL.nil (WX.then_normal (WC.cond_false rfl (WC.skip (WX.then_normal (WC.seq (WC.region (?_))))))))
      refine WL.assign rfl rfl (WL.nil (WX.then_normal (WC.seq (WC.seq (WC.region (WL.assign rfl rfl (WL.nil (?_))))))))
      refine WX.then_normal (WC.block (?_))
      have zw1 := hw.size
      refine WC.loop (σ := Nat × (Option Addr × Nat × Nat × List Rw)) (fun q => [(0, .slice ar rgt.length cr), (3, vi rgt.length), (6, .slice q.2.1 q.2.2.2.2.length q.2.2.1), (7, vi (q.1 : Int))])
        (fun q w' => q.1 ≤ rgt.length ∧ Units rgt.length q.2.2.2.2 q.1 ∧ CR w.heap.size q.2.2.2.1 w' 23 q.2.1 q.2.2.1 q.2.2.2.2 ∧ (w.heap.size ≤ q.2.2.2.1 ∧ q.2.2.2.1 ≤ w'.heap.size) ∧ RSl (· < w.heap.size) w' eb ar cr rgt ∧ Chg Nob w w') (fun q => rgt.length - q.1) (0, none, 0, w.heap.size, []) ⟨rfl, rfl, rfl, rfl, trivial⟩ ⟨Nat.zero_le _, ⟨rfl, fun j z hz => by simp at hz⟩, CR.nil _ _ _ _, ⟨Nat.le_refl _, zw1⟩, hr, hw⟩ ?_
      clear hr hw
      rintro ⟨i, am, cm, n1, ms⟩ w2 ⟨hi, hU, hC, ⟨hwn, hn1⟩, hr, hw⟩
      simp only at hi hU hC hwn hn1
      dsimp only
      have hml := hU.len
      refine WC.seq (WC.seq (WC.region (WL.move rfl rfl (WL.move rfl rfl (?_)))))
      refine WL.lss? rfl rfl rfl (fun h37 => ?_) (fun h37 => ?_)
      ·
        refine WL.nil (WX.then_normal (WC.cond_true rfl (WC.skip (WX.then_normal (WC.seq (WC.block (WC.seq (?_))))))))
        refine WC.region (WL.move rfl rfl (?_))
        refine WL.make (e := eb) (0 : UInt8) rgt.length rgt.length Try.underlying23 info_5 rfl rfl rfl ⟨rfl, rfl, Nat.le_refl _⟩ (by constructor <;> omega) rfl ?_
        intro g5 w5 hO5 k5 z5 e5
        rw [List.length_replicate]
        have zs_k5 := k5.size
        replace hC := hC.pure k5
        replace hr := hr.pure k5
        replace hw := hw.pure k5
        refine WL.assign rfl rfl (WL.nil (WX.then_normal (WC.seq (WC.region (WL.move rfl rfl (WL.move rfl rfl (?_)))))))
        refine WL.index (j := i) (sz := 1) Try.underlying23 Try.sizeOf5 rfl rfl rfl (by omega) rfl ?_
        refine WL.storeRow (z := (1 : UInt8)) i Try.sizeOf5 hO5 rfl rfl rfl (by show 0 + i * 1 = i; omega) (by rw [List.length_replicate]; omega) rfl ?_
        intro w6 z6 hO6 k6
        have hO6' : Row (w2.heap.size ≤ ·) w6 5 eb (some ⟨g5, 0, none⟩) rgt.length (unit rgt.length i) := hO6
        replace hC := hC.chg k6 (fun x h1 h2 => by have h3 : x = g5 := h2; omega)
        replace hr := hr.chg k6 (fun x _ h1 h2 => by have h3 : x = g5 := h2; omega)
        replace hw := hw.chg k6 (fun x h1 h2 => by have h3 : x = g5 := h2; omega)
        refine WL.nil (WX.then_normal (WC.region (WL.move rfl rfl (WL.move rfl rfl (?_)))))
        refine WL.build (e := erow) [(⟨some ⟨g5, 0, none⟩, rgt.length, unit rgt.length i⟩ : Rw)] Try.underlying22 Try.sizeOf23 Try.zeroValue23 rfl rfl (by simp [erow, Enc.all, unit_len, Value.cells]) (by simp [Value.cells]; rfl) (by decide) rfl ?_
        intro aqr wqr qr lqr zqr kqr
        have zs_kqr := kqr.size
        replace hC := hC.pure kqr
        replace hr := hr.pure kqr
        replace hw := hw.pure kqr
        replace hO6' := hO6'.pure kqr
        refine WL.append (e := erow) (S := fun b => w.heap.size ≤ b) info_23 rfl Try.underlying22 rfl rfl (hC.outer.mono (fun b hb => hb.1)) (qr.rsl.src Try.underlying22) (by show (ms.length + 1) * 24 ≤ _ ∧ ms.length + 1 ≤ _; constructor <;> omega) (fun b hb => by have := hw.size; omega) rfl ?_
        intro a15 c15 w15 hO15 g15 n15
        have hC15 := hC.snoc (r := ⟨some ⟨g5, 0, none⟩, rgt.length, unit rgt.length i⟩) (hO6'.lt.rsl.mono (fun b hb => ⟨by have := hb.1; omega, hb.2⟩)) hwn (by omega) hO15 g15
        replace hr := hr.chg g15.chg (fun x _ h1 h2 => by have := h2.2; omega)
        replace hw := hw.chg g15.chg (fun x h1 h2 => by have := h2.2; omega)
        refine WL.assign rfl rfl (WL.nil (WX.block_normal (WX.then_normal (WC.region (WL.move rfl rfl (WL.add64 rfl rfl (by first | omega | (constructor <;> omega)) rfl (WL.assign rfl rfl (?_))))))))
        refine WL.nil (?_)
        exact WX.loop_next (i + 1, a15, c15, _, ms ++ [⟨some ⟨g5, 0, none⟩, rgt.length, unit rgt.length i⟩]) ⟨rfl, rfl, rfl, rfl, trivial⟩ ⟨by show i + 1 ≤ _; omega, ⟨by show (ms ++ [_]).length = _; simp [hml], fun j z hz => (by
          rcases get_snoc hz with h1 | ⟨h1, h2⟩
          ·
            exact hU.row j z h1
          ·
            rw [h1, h2, hml])⟩, hC15, ⟨hw.size, Nat.le_refl _⟩, hr, hw⟩ (by show rgt.length - (i + 1) < rgt.length - i; omega)
      ·
        refine WL.nil (WX.then_normal (WC.cond_false rfl (WC.exit (WX.then_exit (WX.then_exit (WX.block_here (WX.then_normal (?_))))))))
        refine WC.seq (WC.region (?_))
        have hin : i = rgt.length := by omega
        subst hin
        have hn8 : 1 ≤ rgt.length ∧ rgt.length ≤ 8 := by omega
        refine WL.call eg_13 rfl rfl (fresh_calls _) ?_
        rintro v w3 ⟨⟨gf, rfl, hF, hgf⟩, k3⟩
        have zs_k3 := k3.size
        replace hC := hC.pure k3
        replace hr := hr.pure k3
        replace hw := hw.pure k3
        refine WL.move rfl rfl (WL.move rfl rfl (?_))
        have hRS : RS (fun b => b ≠ gf) _ am cm ms := ⟨hC.outer.rsl.mono (fun b hb => by have := hb.2; omega), fun r hr => (hC.inner r hr).mono (fun b hb => by have := hb.1.2; omega)⟩
        refine WL.call eg_14 rfl rfl (Solve_calls hF hRS (hr.mono (S' := fun b => b ≠ gf) (fun b hb => by omega)) (by omega) (by omega)) ?_
        rintro v w5 ⟨⟨ay, cy, out, e, rfl, hS, hY⟩, hF5, k5⟩
        have zk5 := k5.size
        obtain ⟨heq, rfl⟩ := hU.sol hn8 rfl hS
        replace hC := hC.chg k5 (fun x h1 h2 => by have h3 : x = gf := h2; omega)
        replace hr := hr.chg k5 (fun x _ h1 h2 => by have h3 : x = gf := h2; omega)
        replace hw := hw.chg k5 (fun x h1 h2 => by have h3 : x = gf := h2; omega)
        refine WL.move rfl rfl (WL.extract rfl rfl rfl (WL.extract rfl rfl rfl (WL.assign rfl rfl (WL.assign rfl rfl (WL.nil (WX.then_normal (WC.seq (?_))))))))
        refine WC.seq (WC.region (WL.move rfl rfl (?_)))
        refine WL.neqF rfl rfl rfl (by first | rfl | omega | decide) ?_
        refine WL.move rfl rfl (WL.want rfl rfl rfl (WL.move rfl rfl (WL.want rfl rfl rfl (?_))))
        refine WL.toStr Try.underlying23 Try.underlying5 Try.underlying9 hY.rsl rfl rfl ?_
        refine WL.want rfl rfl rfl (WL.move rfl rfl (WL.want rfl rfl rfl (?_)))
        refine WL.toStr Try.underlying23 Try.underlying5 Try.underlying9 hr rfl rfl ?_
        refine WL.want rfl rfl rfl (?_)
        refine WL.sneqF rfl rfl rfl (bytes_eq.2 heq) ?_
        refine WL.pickF rfl rfl rfl (WL.nil (WX.then_normal (WC.cond_false rfl (WC.skip (WX.then_normal (WC.seq (WC.seq (?_))))))))
        refine WC.region (WL.move rfl rfl (?_))
        refine WL.eql? rfl rfl rfl (fun h66 => ?_) (fun h66 => ?_)
        ·
          refine WL.nil (WX.then_normal (WC.cond_true rfl (WC.seq (WC.region (WL.assign rfl rfl (WL.nil (WX.then_normal (?_))))))))
          refine WC.ret (WX.then_ret (?_))
          refine WX.ret1 (.inl rfl) Try.results6 rfl ?_
          exact ⟨_, rfl, rfl, hw⟩
        ·
          refine WL.nil (WX.then_normal (WC.cond_false rfl (WC.skip (WX.then_normal (WC.seq (WC.region (WL.move rfl rfl (?_))))))))
          refine WL.move rfl rfl (?_)
          obtain ⟨r1, hr1⟩ : ∃ r1, ms[1]? = some r1 := ⟨_, List.getElem?_eq_getElem (by omega)⟩
          obtain ⟨go, hgo⟩ := hC.outer.place0 (j := 1) (by omega)
          refine WL.indexT (e := erow) (j := 1) Try.underlying22 Try.sizeOf23 hC.outer.rsl rfl rfl ⟨hr1, rfl⟩ rfl ?_
          intro bb oo hcc
          refine WL.load Try.isAgg23 rfl (hcc 0 _ rfl) rfl ?_
          have hOu := hC.outer
          rw [hgo] at hOu
          refine WL.index (j := 0) (sz := 1) Try.underlying22 Try.sizeOf23 (by show some (Value.slice am _ _) = some (Value.slice (some ⟨go, 0, none⟩) _ _); rw [hgo]) rfl rfl (by omega) rfl ?_
          refine WL.storeRow (z := r1) 0 Try.sizeOf23 hOu rfl rfl rfl (by show 0 + 0 * 1 = 0; omega) (by omega) rfl ?_
          intro w7 z7 hO7 k7
          have hgol := hC.outer.at_ _ hgo
          have hgow : w.heap.size ≤ go := hgol.1
          have hRS7 : RS (fun b => b < n1) w7 (some ⟨go, 0, none⟩) cm (ms.set 0 r1) := ⟨hO7.rsl.mono (fun b hb => hb.2), fun r hr => by
            have hrm : r ∈ ms := by
              rcases List.mem_or_eq_of_mem_set hr with h1 | h1
              ·
                exact h1
              ·
                rw [h1]; exact List.mem_of_getElem? hr1
            exact ((hC.inner r hrm).chg k7 (fun b _ h1 h2 => h1.2 ⟨_, hgo, h2⟩)).mono (fun b hb => hb.1.2)⟩
          replace hr := hr.chg k7 (fun x _ h1 h2 => by have h3 : x = go := h2; omega)
          replace hw := hw.chg k7 (fun x h1 h2 => by have h3 : x = go := h2; omega)
          refine WL.nil (WX.then_normal (WC.seq (WC.region (?_))))
          refine WL.call eg_13 rfl rfl (fresh_calls _) ?_
          rintro v w8 ⟨⟨gf8, rfl, hF8, hgf8⟩, k8⟩
          have zs_k8 := k8.size
          replace hRS7 := hRS7.pure k8
          replace hr := hr.pure k8
          replace hw := hw.pure k8
          refine WL.move rfl rfl (WL.move rfl rfl (?_))
          have hsl : (ms.set 0 r1).length = ms.length := List.length_set ..
          have hcall := Solve_calls hF8 (hRS7.mono (S' := fun b => b ≠ gf8) (fun b hb => by omega)) (hr.mono (S' := fun b => b ≠ gf8) (fun b hb => by omega)) (by omega) (by omega)
          rw [hsl, ← hgo] at hcall
          refine WL.call eg_14 rfl rfl (hcall) ?_
          rintro v w9 ⟨⟨ay9, cy9, out9, e9, rfl, hS9, hY9⟩, hF9, k9⟩
          obtain rfl := hU.twice hr1 (by omega) rfl hS9
          replace hw := hw.chg k9 (fun x h1 h2 => by have h3 : x = gf8 := h2; omega)
          refine WL.move rfl rfl (WL.extract rfl rfl rfl (WL.extract rfl rfl rfl (WL.assign rfl rfl (WL.nil (WX.then_normal (WC.seq (WC.region (?_))))))))
          refine WL.move rfl rfl (?_)
          refine WL.eqlT rfl rfl rfl (by first | rfl | omega | decide) ?_
          refine WL.assign rfl rfl (WL.nil (WX.then_normal (WC.ret (?_))))
          refine WX.ret1 (.inl rfl) Try.results6 rfl ?_
          exact ⟨_, rfl, rfl, hw⟩
end Go.Proofs.Ytjdbjdgobhjbkaa
