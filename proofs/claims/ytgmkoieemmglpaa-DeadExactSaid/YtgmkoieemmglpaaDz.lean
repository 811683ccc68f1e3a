import Derived.Test.YtgmkoieemmglpaaDy
namespace Go.Proofs.Ytgmkoieemmglpaa
open Go.RowKit Go.HL

theorem has_calls {S : Nat → Prop} {w : World} {ao : Option Addr} {c : Nat} {xs : List Int} (hr : RSl S w ei ao c xs) (hl : xs.length ≤ 1000000) (n : Int) :
    Calls Try.prog 22 [.slice ao xs.length c, vi n].toArray w (Ret fun v w' => v = .bool (decide (n ∈ xs)) ∧ Chg Nob w w') := by
  have hw := Chg.refl Nob w
  refine Calls.of_WC Try.func22 rfl Try.ntmps22 (by simp) ?_
  refine WC.seq (WC.region (WL.assign rfl rfl (WL.nil (WX.then_normal (WC.seq (WC.seq (WC.region (?_))))))))
  refine WL.assign rfl rfl (WL.nil (WX.then_normal (WC.block (?_))))
  refine WC.loop (σ := Nat) (fun i => [(0, .slice ao xs.length c), (1, vi n), (5, vi (i : Int))]) (fun i w' => i ≤ xs.length ∧ RSl S w' ei ao c xs ∧ Chg Nob w w' ∧ ∀ j, j < i → xs[j]? ≠ some n) (fun i => xs.length - i) 0 ⟨rfl, rfl, rfl, trivial⟩ ⟨Nat.zero_le _, hr, hw, fun j hj => by omega⟩ ?_
  clear hr hw
  rintro i w1 ⟨hi, hr, hw, hno⟩
  refine WC.seq (WC.seq (WC.region (WL.move rfl rfl (WL.move rfl rfl (WL.len Try.underlying55 rfl rfl (?_))))))
  refine WL.lss? rfl rfl rfl (fun h9 => ?_) (fun h9 => ?_)
  ·
    refine WL.nil (WX.then_normal (WC.cond_true rfl (WC.skip (WX.then_normal (WC.seq (WC.block (WC.seq (?_))))))))
    refine WC.region (WL.move rfl rfl (WL.move rfl rfl (?_)))
    obtain ⟨x, hx⟩ : ∃ x, xs[i]? = some x := ⟨_, List.getElem?_eq_getElem (by omega)⟩
    refine WL.indexT Try.underlying55 Try.sizeOf3 hr rfl rfl ⟨hx, rfl⟩ rfl ?_
    intro b_1 o_1 hc_1
    refine WL.load Try.isAgg3 rfl (hc_1 0 _ rfl) rfl (WL.move rfl rfl (?_))
    refine WL.eql? rfl rfl rfl (fun h17 => ?_) (fun h17 => ?_)
    ·
      refine WL.nil (WX.then_normal (WC.cond_true rfl (WC.seq (WC.region (WL.assign rfl rfl (WL.nil (WX.then_normal (?_))))))))
      refine WC.ret (WX.block_ret (WX.then_ret (WX.then_ret (WX.block_ret (WX.then_ret (?_))))))
      refine WX.ret1 (.inl rfl) Try.results22 rfl ?_
      first
        | (have hh : x = n := h17
           exact ⟨_, rfl, by rw [decide_eq_true (hh ▸ List.mem_of_getElem? hx)], hw⟩)
        | (have hh : ¬ n ∈ xs := fun hm => by
             obtain ⟨j, hj, e⟩ := List.getElem_of_mem hm
             exact hno j (by omega) (by rw [List.getElem?_eq_getElem hj, e])
           exact ⟨_, rfl, by rw [decide_eq_false hh], hw⟩)
    ·
      refine WL.nil (WX.then_normal (WC.cond_false rfl (WC.skip (WX.block_normal (WX.then_normal (WC.region (WL.move rfl rfl (?_))))))))
      refine WL.add64 rfl rfl (by first | omega | (constructor <;> omega)) rfl (WL.assign rfl rfl (WL.nil (?_)))
      refine WX.loop_next (i + 1) ⟨rfl, rfl, rfl, trivial⟩ ⟨by omega, hr, hw, fun j hj => ?_⟩ (by omega)
      rcases Nat.lt_or_ge j i with h1 | h1
      ·
        exact hno j h1
      ·
        rw [show j = i from by omega, hx]
        intro e
        injection e with e
        exact h17 e
  ·
    refine WL.nil (WX.then_normal (WC.cond_false rfl (WC.exit (WX.then_exit (WX.then_exit (WX.block_here (WX.then_normal (?_))))))))
    refine WC.seq (WC.region (WL.assign rfl rfl (WL.nil (WX.then_normal (WC.ret (?_))))))
    refine WX.ret1 (.inl rfl) Try.results22 rfl ?_
    first
      | (have hh : x = n := h17
         exact ⟨_, rfl, by rw [decide_eq_true (hh ▸ List.mem_of_getElem? hx)], hw⟩)
      | (have hh : ¬ n ∈ xs := fun hm => by
           obtain ⟨j, hj, e⟩ := List.getElem_of_mem hm
           exact hno j (by omega) (by rw [List.getElem?_eq_getElem hj, e])
         exact ⟨_, rfl, by rw [decide_eq_false hh], hw⟩)
theorem without_calls {S : Nat → Prop} {w : World} {ao : Option Addr} {c : Nat} {xs : List Int} (hr : RSl S w ei ao c xs) (hl : xs.length ≤ 1000000) (i : Nat) (hi : i < xs.length) :
    Calls Try.prog 21 [.slice ao xs.length c, vi (i : Int)].toArray w (Ret fun v w' => (∃ ao2 c2, v = .slice ao2 (xs.take i ++ xs.drop (i + 1)).length c2 ∧ Row (w.heap.size ≤ ·) w' 3 ei ao2 c2 (xs.take i ++ xs.drop (i + 1))) ∧ Chg Nob w w') := by
  have hw := Chg.refl Nob w
  replace hr := hr.old
  have e8 : (xs.take i).drop 0 = xs.take i := List.drop_zero
  have e13 : (xs.take xs.length).drop (i + 1) = xs.drop (i + 1) := by rw [List.take_length]
  have h8 := hr.cut 0 i ⟨Nat.zero_le _, by omega⟩
  have h13 := hr.cut (i + 1) xs.length ⟨by omega, Nat.le_refl _⟩
  rw [e8] at h8
  rw [e13] at h13
  have hl1 : (xs.take i).length ≤ 1000000 := by simp; omega
  have hl2 : (xs.drop (i + 1)).length ≤ 1000000 := by simp; omega
  refine Calls.of_WC Try.func21 rfl Try.ntmps21 (by simp) ?_
  refine WC.seq (WC.region (WL.assign rfl rfl (WL.nil (WX.then_normal (WC.seq (?_))))))
  refine WC.draw ((fun x => w.heap.size ≤ x)) [1, 2, 3, 5, 6, 7, 8] [0, 4, 9, 10] mixed rfl rfl (fun wd_1 kd_1 zd_1 => ?_)
  have zs_kd_1 := kd_1.size
  replace hr := hr.pure kd_1
  replace h8 := h8.pure kd_1
  replace h13 := h13.pure kd_1
  replace hw := hw.pure kd_1
  apply DQ.step (E' := [(0, _)])
  case ho => rfl
  case hs => exact ⟨rfl, trivial⟩
  case hk => rfl
  case h1 =>
    intro wq_3 kq_3
    refine WL.move rfl rfl (?_)
    refine WL.nil ?_
    exact WX.one ⟨rfl, by first | exact Chg.refl _ _ | assumption⟩
  apply DQ.step (E' := [(1, _)])
  case ho => rfl
  case hs => exact ⟨rfl, trivial⟩
  case hk => rfl
  case h1 =>
    intro wq_4 kq_4
    refine WL.move rfl rfl (?_)
    refine WL.nil ?_
    exact WX.one ⟨rfl, by first | exact Chg.refl _ _ | assumption⟩
  apply DQ.step (E' := [(6, _), (7, _)])
  case ho => rfl
  case hs => exact ⟨rfl, rfl, trivial⟩
  case hk => rfl
  case h1 =>
    intro wq_5 kq_5
    have zs_kq_5 := kq_5.size
    replace hr := hr.chg kq_5 (by first | (intro x h1 h2; exact h2) | (intro x h1 h2; have h3 : _ = _ := h2; exfalso; omega) | (intro b h1 h2 h3; have h4 : _ = _ := h3; (try dsimp only at h2); exfalso; omega) | (intro h1; have h2 : _ = _ := h1; exfalso; omega) | (intros; exfalso; (try dsimp only at *); omega) | (intro b h1 h2 h3; exfalso; have h4 := h3.2; (try dsimp only at *); omega) | (intro h1; exfalso; have h4 := h1.2; (try dsimp only at *); omega))
    replace h8 := h8.chg kq_5 (by first | (intro x h1 h2; exact h2) | (intro x h1 h2; have h3 : _ = _ := h2; exfalso; omega) | (intro b h1 h2 h3; have h4 : _ = _ := h3; (try dsimp only at h2); exfalso; omega) | (intro h1; have h2 : _ = _ := h1; exfalso; omega) | (intros; exfalso; (try dsimp only at *); omega) | (intro b h1 h2 h3; exfalso; have h4 := h3.2; (try dsimp only at *); omega) | (intro h1; exfalso; have h4 := h1.2; (try dsimp only at *); omega))
    replace h13 := h13.chg kq_5 (by first | (intro x h1 h2; exact h2) | (intro x h1 h2; have h3 : _ = _ := h2; exfalso; omega) | (intro b h1 h2 h3; have h4 : _ = _ := h3; (try dsimp only at h2); exfalso; omega) | (intro h1; have h2 : _ = _ := h1; exfalso; omega) | (intros; exfalso; (try dsimp only at *); omega) | (intro b h1 h2 h3; exfalso; have h4 := h3.2; (try dsimp only at *); omega) | (intro h1; exfalso; have h4 := h1.2; (try dsimp only at *); omega))
    replace hw := hw.chg kq_5 (by first | (intro x h1 h2; exact h2) | (intro x h1 h2; have h3 : _ = _ := h2; exfalso; omega) | (intro b h1 h2 h3; have h4 : _ = _ := h3; (try dsimp only at h2); exfalso; omega) | (intro h1; have h2 : _ = _ := h1; exfalso; omega) | (intros; exfalso; (try dsimp only at *); omega) | (intro b h1 h2 h3; exfalso; have h4 := h3.2; (try dsimp only at *); omega) | (intro h1; exfalso; have h4 := h1.2; (try dsimp only at *); omega))
    refine WL.sliceC (l := 0) (h := i) (k := .i64) Try.underlying55 Try.sizeOf3 hr rfl (.inr ⟨rfl, rfl⟩) (.inl rfl) (by constructor <;> omega) rfl ?_
    rw [e8]
    refine WL.nil ?_
    exact WX.one ⟨rfl, by first | exact Chg.refl _ _ | assumption⟩
  apply DQ.step (E' := [(0, _)])
  case ho => rfl
  case hs => exact ⟨rfl, trivial⟩
  case hk => rfl
  case h1 =>
    intro wq_6 kq_6
    refine WL.move rfl rfl (?_)
    refine WL.nil ?_
    exact WX.one ⟨rfl, by first | exact Chg.refl _ _ | assumption⟩
  apply DQ.step (E' := [(1, _)])
  case ho => rfl
  case hs => exact ⟨rfl, trivial⟩
  case hk => rfl
  case h1 =>
    intro wq_7 kq_7
    refine WL.move rfl rfl (?_)
    refine WL.nil ?_
    exact WX.one ⟨rfl, by first | exact Chg.refl _ _ | assumption⟩
  apply DQ.step (E' := [(11, _)])
  case ho => rfl
  case hs => exact ⟨rfl, trivial⟩
  case hk => rfl
  case h1 =>
    intro wq_8 kq_8
    refine WL.add64 rfl rfl (by first | omega | (constructor <;> omega)) rfl (?_)
    refine WL.nil ?_
    exact WX.one ⟨rfl, by first | exact Chg.refl _ _ | assumption⟩
  apply DQ.step (E' := [(10, _), (12, _)])
  case ho => rfl
  case hs => exact ⟨rfl, rfl, trivial⟩
  case hk => rfl
  case h1 =>
    intro wq_9 kq_9
    have zs_kq_9 := kq_9.size
    replace hr := hr.chg kq_9 (by first | (intro x h1 h2; exact h2) | (intro x h1 h2; have h3 : _ = _ := h2; exfalso; omega) | (intro b h1 h2 h3; have h4 : _ = _ := h3; (try dsimp only at h2); exfalso; omega) | (intro h1; have h2 : _ = _ := h1; exfalso; omega) | (intros; exfalso; (try dsimp only at *); omega) | (intro b h1 h2 h3; exfalso; have h4 := h3.2; (try dsimp only at *); omega) | (intro h1; exfalso; have h4 := h1.2; (try dsimp only at *); omega))
    replace h8 := h8.chg kq_9 (by first | (intro x h1 h2; exact h2) | (intro x h1 h2; have h3 : _ = _ := h2; exfalso; omega) | (intro b h1 h2 h3; have h4 : _ = _ := h3; (try dsimp only at h2); exfalso; omega) | (intro h1; have h2 : _ = _ := h1; exfalso; omega) | (intros; exfalso; (try dsimp only at *); omega) | (intro b h1 h2 h3; exfalso; have h4 := h3.2; (try dsimp only at *); omega) | (intro h1; exfalso; have h4 := h1.2; (try dsimp only at *); omega))
    replace h13 := h13.chg kq_9 (by first | (intro x h1 h2; exact h2) | (intro x h1 h2; have h3 : _ = _ := h2; exfalso; omega) | (intro b h1 h2 h3; have h4 : _ = _ := h3; (try dsimp only at h2); exfalso; omega) | (intro h1; have h2 : _ = _ := h1; exfalso; omega) | (intros; exfalso; (try dsimp only at *); omega) | (intro b h1 h2 h3; exfalso; have h4 := h3.2; (try dsimp only at *); omega) | (intro h1; exfalso; have h4 := h1.2; (try dsimp only at *); omega))
    replace hw := hw.chg kq_9 (by first | (intro x h1 h2; exact h2) | (intro x h1 h2; have h3 : _ = _ := h2; exfalso; omega) | (intro b h1 h2 h3; have h4 : _ = _ := h3; (try dsimp only at h2); exfalso; omega) | (intro h1; have h2 : _ = _ := h1; exfalso; omega) | (intros; exfalso; (try dsimp only at *); omega) | (intro b h1 h2 h3; exfalso; have h4 := h3.2; (try dsimp only at *); omega) | (intro h1; exfalso; have h4 := h1.2; (try dsimp only at *); omega))
    refine WL.sliceC (l := i + 1) (h := xs.length) (j := .i64) Try.underlying55 Try.sizeOf3 hr rfl (.inl rfl) (.inr ⟨rfl, rfl⟩) (by constructor <;> omega) rfl ?_
    rw [e13]
    refine WL.nil ?_
    exact WX.one ⟨rfl, by first | exact Chg.refl _ _ | assumption⟩
  refine DQ.done (fun hd_2 => ?_)
  refine DL.step [] rfl trivial rfl (fun wq_10 kq_10 => ?_)
  have zs_kq_10 := kq_10.size
  replace hr := hr.pure kq_10
  replace h8 := h8.pure kq_10
  replace h13 := h13.pure kq_10
  replace hw := hw.pure kq_10
  replace hd_2 := hd_2.pure kq_10
  refine WL.build (e := ei) [] Try.underlying55 Try.sizeOf3 Try.zeroValue3 rfl rfl rfl (by first | (simp [Value.cells]; done) | (simp [Value.cells] <;> rfl) | (simp [Value.cells, eb, ei, es, ebool, e32, e64]; done)) (by decide) rfl ?_
  intro a_hq w_hq hq l_hq z_hq k_hq
  have zs_k_hq := k_hq.size
  replace hr := hr.pure k_hq
  replace h8 := h8.pure k_hq
  replace h13 := h13.pure k_hq
  replace hw := hw.pure k_hq
  replace hd_2 := hd_2.pure k_hq
  refine WL.nil ?_
  refine WX.one ⟨hd_2, ?_⟩
  refine DL.step [(5, _), (8, _)] rfl ⟨rfl, rfl, trivial⟩ rfl (fun wq_11 kq_11 => ?_)
  have zs_kq_11 := kq_11.size
  replace hr := hr.pure kq_11
  replace h8 := h8.pure kq_11
  replace h13 := h13.pure kq_11
  replace hw := hw.pure kq_11
  replace hd_2 := hd_2.pure kq_11
  replace hq := hq.pure kq_11
  refine WL.append (e := ei) (xs := []) info_3 rfl Try.underlying55 rfl rfl hq (h8.src Try.underlying55) (by show (0 + (xs.take i).length) * 8 ≤ _ ∧ 0 + (xs.take i).length ≤ _; constructor <;> omega) (fun x hx => by omega) rfl ?_
  intro a9 c9 w9 hQ g9 n9
  have k9 := g9.chg.mono (fun x _ hx => hx.2)
  have zs_k9 := k9.size
  replace hr := hr.chg k9 (by first | (intro x h1 h2; exact h2) | (intro x h1 h2; have h3 : _ = _ := h2; exfalso; omega) | (intro b h1 h2 h3; have h4 : _ = _ := h3; (try dsimp only at h2); exfalso; omega) | (intro h1; have h2 : _ = _ := h1; exfalso; omega) | (intros; exfalso; (try dsimp only at *); omega) | (intro b h1 h2 h3; exfalso; have h4 := h3.2; (try dsimp only at *); omega) | (intro h1; exfalso; have h4 := h1.2; (try dsimp only at *); omega))
  replace h8 := h8.chg k9 (by first | (intro x h1 h2; exact h2) | (intro x h1 h2; have h3 : _ = _ := h2; exfalso; omega) | (intro b h1 h2 h3; have h4 : _ = _ := h3; (try dsimp only at h2); exfalso; omega) | (intro h1; have h2 : _ = _ := h1; exfalso; omega) | (intros; exfalso; (try dsimp only at *); omega) | (intro b h1 h2 h3; exfalso; have h4 := h3.2; (try dsimp only at *); omega) | (intro h1; exfalso; have h4 := h1.2; (try dsimp only at *); omega))
  replace h13 := h13.chg k9 (by first | (intro x h1 h2; exact h2) | (intro x h1 h2; have h3 : _ = _ := h2; exfalso; omega) | (intro b h1 h2 h3; have h4 : _ = _ := h3; (try dsimp only at h2); exfalso; omega) | (intro h1; have h2 : _ = _ := h1; exfalso; omega) | (intros; exfalso; (try dsimp only at *); omega) | (intro b h1 h2 h3; exfalso; have h4 := h3.2; (try dsimp only at *); omega) | (intro h1; exfalso; have h4 := h1.2; (try dsimp only at *); omega))
  replace hw := hw.chg k9 (by first | (intro x h1 h2; exact h2) | (intro x h1 h2; have h3 : _ = _ := h2; exfalso; omega) | (intro b h1 h2 h3; have h4 : _ = _ := h3; (try dsimp only at h2); exfalso; omega) | (intro h1; have h2 : _ = _ := h1; exfalso; omega) | (intros; exfalso; (try dsimp only at *); omega) | (intro b h1 h2 h3; exfalso; have h4 := h3.2; (try dsimp only at *); omega) | (intro h1; exfalso; have h4 := h1.2; (try dsimp only at *); omega))
  replace hd_2 := hd_2.chg k9 (by first | (intro x h1 h2; exact h2) | (intro x h1 h2; have h3 : _ = _ := h2; exfalso; omega) | (intro b h1 h2 h3; have h4 : _ = _ := h3; (try dsimp only at h2); exfalso; omega) | (intro h1; have h2 : _ = _ := h1; exfalso; omega) | (intros; exfalso; (try dsimp only at *); omega) | (intro b h1 h2 h3; exfalso; have h4 := h3.2; (try dsimp only at *); omega) | (intro h1; exfalso; have h4 := h1.2; (try dsimp only at *); omega))
  refine WL.nil ?_
  refine WX.one ⟨hd_2, ?_⟩
  refine DL.step [(9, _), (13, _)] rfl ⟨rfl, rfl, trivial⟩ rfl (fun wq_12 kq_12 => ?_)
  have zs_kq_12 := kq_12.size
  replace hr := hr.pure kq_12
  replace h8 := h8.pure kq_12
  replace h13 := h13.pure kq_12
  replace hw := hw.pure kq_12
  replace hd_2 := hd_2.pure kq_12
  replace hQ := hQ.pure kq_12
  refine WL.append (e := ei) (xs := xs.take i) info_3 rfl Try.underlying55 rfl rfl hQ (h13.src Try.underlying55) (by show ((xs.take i).length + (xs.drop (i + 1)).length) * 8 ≤ _ ∧ (xs.take i).length + (xs.drop (i + 1)).length ≤ _; constructor <;> omega) (fun x hx => by omega) rfl ?_
  intro a14 c14 w14 hR g14 n14
  have k14 := g14.chg.mono (fun x _ hx => hx.2)
  have zs_k14 := k14.size
  replace hr := hr.chg k14 (by first | (intro x h1 h2; exact h2) | (intro x h1 h2; have h3 : _ = _ := h2; exfalso; omega) | (intro b h1 h2 h3; have h4 : _ = _ := h3; (try dsimp only at h2); exfalso; omega) | (intro h1; have h2 : _ = _ := h1; exfalso; omega) | (intros; exfalso; (try dsimp only at *); omega) | (intro b h1 h2 h3; exfalso; have h4 := h3.2; (try dsimp only at *); omega) | (intro h1; exfalso; have h4 := h1.2; (try dsimp only at *); omega))
  replace h8 := h8.chg k14 (by first | (intro x h1 h2; exact h2) | (intro x h1 h2; have h3 : _ = _ := h2; exfalso; omega) | (intro b h1 h2 h3; have h4 : _ = _ := h3; (try dsimp only at h2); exfalso; omega) | (intro h1; have h2 : _ = _ := h1; exfalso; omega) | (intros; exfalso; (try dsimp only at *); omega) | (intro b h1 h2 h3; exfalso; have h4 := h3.2; (try dsimp only at *); omega) | (intro h1; exfalso; have h4 := h1.2; (try dsimp only at *); omega))
  replace h13 := h13.chg k14 (by first | (intro x h1 h2; exact h2) | (intro x h1 h2; have h3 : _ = _ := h2; exfalso; omega) | (intro b h1 h2 h3; have h4 : _ = _ := h3; (try dsimp only at h2); exfalso; omega) | (intro h1; have h2 : _ = _ := h1; exfalso; omega) | (intros; exfalso; (try dsimp only at *); omega) | (intro b h1 h2 h3; exfalso; have h4 := h3.2; (try dsimp only at *); omega) | (intro h1; exfalso; have h4 := h1.2; (try dsimp only at *); omega))
  replace hw := hw.chg k14 (by first | (intro x h1 h2; exact h2) | (intro x h1 h2; have h3 : _ = _ := h2; exfalso; omega) | (intro b h1 h2 h3; have h4 : _ = _ := h3; (try dsimp only at h2); exfalso; omega) | (intro h1; have h2 : _ = _ := h1; exfalso; omega) | (intros; exfalso; (try dsimp only at *); omega) | (intro b h1 h2 h3; exfalso; have h4 := h3.2; (try dsimp only at *); omega) | (intro h1; exfalso; have h4 := h1.2; (try dsimp only at *); omega))
  replace hd_2 := hd_2.chg k14 (by first | (intro x h1 h2; exact h2) | (intro x h1 h2; have h3 : _ = _ := h2; exfalso; omega) | (intro b h1 h2 h3; have h4 : _ = _ := h3; (try dsimp only at h2); exfalso; omega) | (intro h1; have h2 : _ = _ := h1; exfalso; omega) | (intros; exfalso; (try dsimp only at *); omega) | (intro b h1 h2 h3; exfalso; have h4 := h3.2; (try dsimp only at *); omega) | (intro h1; exfalso; have h4 := h1.2; (try dsimp only at *); omega))
  refine WL.nil ?_
  refine WX.one ⟨hd_2, ?_⟩
  refine DL.step [(14, _)] rfl ⟨rfl, trivial⟩ rfl (fun wq_13 kq_13 => ?_)
  have zs_kq_13 := kq_13.size
  replace hr := hr.pure kq_13
  replace h8 := h8.pure kq_13
  replace h13 := h13.pure kq_13
  replace hw := hw.pure kq_13
  replace hd_2 := hd_2.pure kq_13
  replace hR := hR.pure kq_13
  refine WL.assign rfl rfl (?_)
  refine WL.nil ?_
  refine WX.one ⟨hd_2, ?_⟩
  refine DL.done (fun we_14 ke_14 => ?_)
  have zs_ke_14 := ke_14.size
  replace hr := hr.pure ke_14
  replace h8 := h8.pure ke_14
  replace h13 := h13.pure ke_14
  replace hw := hw.pure ke_14
  replace hd_2 := hd_2.pure ke_14
  replace hR := hR.pure ke_14
  refine WX.then_normal (WC.ret (?_))
  refine WX.ret1 (.inl rfl) Try.results21 rfl ?_
  exact ⟨_, rfl, ⟨_, _, rfl, hR.mono (fun x hx => by omega)⟩, hw⟩
/-! where the history lies -/
structure XS where
  l : LnV
  H : RwI
  O : RwI
  B : RwI
  sao : Option Addr
  sc : Nat
  sn : List RwI
  fao : Option Addr
  fc : Nat
  fl : List Bool
abbrev Out (n : Nat) (B : RwI) (b : Nat) : Prop := b < n ∧ ¬ Eqb B.ao b
abbrev Own0 (w0 : World) (n : Nat) (b : Nat) : Prop := w0.heap.size ≤ b ∧ b < n
structure EX (w0 : World) (n g8 : Nat) (x : XS) (w : World) : Prop where
  line : Blk w g8 33 (lcells x.l)
  g8n : Own0 w0 n g8
  lw : LW (· < n) w x.l
  head : Row (Out n x.B) w 3 ei x.H.ao x.H.cap x.H.xs
  org : Row (Out n x.B) w 3 ei x.O.ao x.O.cap x.O.xs
  snaps : Row (Own0 w0 n) w 55 erowI x.sao x.sc x.sn
  inner : ∀ r ∈ x.sn, Row (Out n x.B) w 3 ei r.ao r.cap r.xs
  births : Row (Own0 w0 n) w 3 ei x.B.ao x.B.cap x.B.xs
  free : Row (Own0 w0 n) w 4 ebool x.fao x.fc x.fl
  le : n ≤ w.heap.size
  hw : Chg Nob w0 w
theorem LW.chgK {S M : Nat → Prop} {w w' : World} {l : LnV} (h : LW S w l) (k : Chg M w w') (h1 : ∀ b, b < w.heap.size → M b → kb w b ≠ some (some 65)) (h2 : ∀ b, b < w.heap.size → M b → kb w b ≠ some (some 27)) : LW S w' l :=
  ⟨h.snaps.chgK k h1, h.dead.chgK k h2, fun x hx => (h.inner x hx).chgK k h2⟩
section
variable {w0 w w' : World} {n g8 : Nat} {x : XS} {M S : Nat → Prop}
theorem EX.chg (h : EX w0 n g8 x w) (k : Chg M w w') (hd : ∀ b, b < w.heap.size → b < n → M b → False) : EX w0 n g8 x w' :=
  ⟨h.line.chg k (fun hm => hd _ h.line.lt h.g8n.2 hm), h.g8n, h.lw.chg k hd, h.head.chg k (fun b h1 h2 h3 => hd b h1 h2.1 h3), h.org.chg k (fun b h1 h2 h3 => hd b h1 h2.1 h3), h.snaps.chg k (fun b h1 h2 h3 => hd b h1 h2.2 h3),
   fun r hr => (h.inner r hr).chg k (fun b h1 h2 h3 => hd b h1 h2.1 h3), h.births.chg k (fun b h1 h2 h3 => hd b h1 h2.2 h3), h.free.chg k (fun b h1 h2 h3 => hd b h1 h2.2 h3), Nat.le_trans h.le k.size,
   h.hw.chg k (fun b h1 h2 => by
     have := h.hw.size
     have h3 := h.g8n.1
     have h4 := h.g8n.2
     exact hd b (by omega) (by omega) h2)⟩
theorem EX.pure (h : EX w0 n g8 x w) (k : Chg Nob w w') : EX w0 n g8 x w' := h.chg k (fun _ _ _ x => x)
theorem EX.up (h : EX w0 n g8 x w) {n' : Nat} (hn : n ≤ n') (hl : n' ≤ w.heap.size) : EX w0 n' g8 x w :=
  ⟨h.line, ⟨h.g8n.1, by have := h.g8n.2; omega⟩, h.lw.mono (fun b hb => by omega), h.head.mono (fun b hb => ⟨by have := hb.1; omega, hb.2⟩), h.org.mono (fun b hb => ⟨by have := hb.1; omega, hb.2⟩), h.snaps.mono (fun b hb => ⟨hb.1, by have := hb.2; omega⟩),
   fun r hr => (h.inner r hr).mono (fun b hb => ⟨by have := hb.1; omega, hb.2⟩), h.births.mono (fun b hb => ⟨hb.1, by have := hb.2; omega⟩), h.free.mono (fun b hb => ⟨hb.1, by have := hb.2; omega⟩), hl, h.hw⟩
theorem EX.now (h : EX w0 n g8 x w) : EX w0 w.heap.size g8 x w := h.up h.le (Nat.le_refl _)
theorem EX.nb (h : EX w0 n g8 x w) {b : Nat} (hb : n ≤ b) : ¬ Eqb x.B.ao b := fun e => by
  have := (h.births.at_.eqb e).2
  omega
/-- another line -/
theorem EX.setLine (h : EX w0 n g8 x w) {l' : LnV} (k : Chg (· = g8) w w') (hb : Blk w' g8 33 (lcells l')) (hl : LW (· < n) w l') : EX w0 n g8 { x with l := l' } w' := by
  have kL : ∀ b, b = g8 → kb w b = some (some 33) := fun b e => by rw [e]; exact h.line.kb
  have kn : ∀ T : TypeId, T ≠ 33 → ∀ b, b < w.heap.size → b = g8 → kb w b ≠ some (some T) := fun T hT b _ e e2 => by
    have := (kL b e).symm.trans e2
    injection this with this
    injection this with this
    exact hT this.symm
  exact ⟨hb, h.g8n, hl.chgK k (kn _ (by decide)) (kn _ (by decide)), h.head.chgK k (kn _ (by decide)), h.org.chgK k (kn _ (by decide)), h.snaps.chgK k (kn _ (by decide)), fun r hr => (h.inner r hr).chgK k (kn _ (by decide)), h.births.chgK k (kn _ (by decide)), h.free.chgK k (kn _ (by decide)), Nat.le_trans h.le k.size,
    h.hw.chg k (fun b h1 h2 => by have := h.g8n.1; have h3 : b = g8 := h2; omega)⟩
/-- a head of its own -/
theorem EX.setHead (h : EX w0 n g8 x w) {H : RwI} (hr : Row S w 3 ei H.ao H.cap H.xs) (hS : ∀ b, S b → n ≤ b) : EX w0 w.heap.size g8 { x with H := H } w := by
  have h1 := h.now
  exact ⟨h1.line, h1.g8n, h1.lw, hr.lt.mono (fun b hb => ⟨hb.2, h.nb (hS b hb.1)⟩), h1.org, h1.snaps, h1.inner, h1.births, h1.free, h1.le, h1.hw⟩
theorem EX.setOrg (h : EX w0 n g8 x w) {H : RwI} (hr : Row S w 3 ei H.ao H.cap H.xs) (hS : ∀ b, S b → n ≤ b) : EX w0 w.heap.size g8 { x with O := H } w := by
  have h1 := h.now
  exact ⟨h1.line, h1.g8n, h1.lw, h1.head, hr.lt.mono (fun b hb => ⟨hb.2, h.nb (hS b hb.1)⟩), h1.snaps, h1.inner, h1.births, h1.free, h1.le, h1.hw⟩
/-- the births grow -/
theorem EX.setB (h : EX w0 n g8 x w) {ao2 : Option Addr} {c2 : Nat} {xs2 : List Int} (hr : Row S w' 3 ei ao2 c2 xs2) (g : Grow S w x.B.ao w' ao2) : EX w0 w'.heap.size g8 { x with B := ⟨ao2, c2, xs2⟩ } w' := by
  have kB : ∀ b, (Eqb x.B.ao b ∧ S b) → kb w b = some (some 3) := fun b e => (h.births.kb.at_.eqb e.1).2
  have kn : ∀ T : TypeId, T ≠ 3 → ∀ b, b < w.heap.size → (Eqb x.B.ao b ∧ S b) → kb w b ≠ some (some T) := fun T hT b _ e e2 => by
    have := (kB b e).symm.trans e2
    injection this with this
    injection this with this
    exact hT this.symm
  have hz := g.chg.size
  have hle := h.le
  have hout : ∀ {H : RwI}, Row (Out n x.B) w 3 ei H.ao H.cap H.xs → Row (Out w'.heap.size ⟨ao2, c2, xs2⟩) w' 3 ei H.ao H.cap H.xs := fun hH =>
    (hH.chg g.chg (fun b _ h2 h3 => h2.2 h3.1)).mono (fun b hb => ⟨by have := hb.1; omega, fun e => by
      rcases g.fr with e2 | e2
      · have e : Eqb ao2 b := e
        rw [e2] at e
        exact hb.2 e
      · have := e2.eqb e
        have := hb.1
        omega⟩)
  refine ⟨h.line.chg g.chg (fun hm => kn _ (by decide) _ h.line.lt hm h.line.kb), ⟨h.g8n.1, by have := h.g8n.2; omega⟩, (h.lw.chgK g.chg (kn _ (by decide)) (kn _ (by decide))).mono (fun b hb => by omega), hout h.head, hout h.org, (h.snaps.chgK g.chg (kn _ (by decide))).mono (fun b hb => ⟨hb.1, by have := hb.2; omega⟩), fun r hr => hout (h.inner r hr), ?_, (h.free.chgK g.chg (kn _ (by decide))).mono (fun b hb => ⟨hb.1, by have := hb.2; omega⟩), Nat.le_refl _, h.hw.chg g.chg (fun b h1 h2 => by have := (h.births.at_.eqb h2.1).1; omega)⟩
  refine ⟨fun a ea => ⟨?_, (hr.lt.at_ a ea).2⟩, hr.own⟩
  rcases g.fr with e2 | e2
  · exact (h.births.at_ a (by rw [← e2]; exact ea)).1
  · have := e2 a ea
    have := h.hw.size
    omega
/-- the marks grow, or are set -/
theorem EX.setF (h : EX w0 n g8 x w) {ao2 : Option Addr} {c2 : Nat} {fl2 : List Bool} (hr : Row S w' 4 ebool ao2 c2 fl2) (hc : Chg (Eqb x.fao) w w') (hf : ao2 = x.fao ∨ At (w.heap.size ≤ ·) ao2) : EX w0 w'.heap.size g8 { x with fao := ao2, fc := c2, fl := fl2 } w' := by
  have kF : ∀ b, Eqb x.fao b → kb w b = some (some 4) := fun b e => (h.free.kb.at_.eqb e).2
  have kn : ∀ T : TypeId, T ≠ 4 → ∀ b, b < w.heap.size → Eqb x.fao b → kb w b ≠ some (some T) := fun T hT b _ e e2 => by
    have := (kF b e).symm.trans e2
    injection this with this
    injection this with this
    exact hT this.symm
  have hz := hc.size
  have hle := h.le
  refine ⟨h.line.chg hc (fun hm => kn _ (by decide) _ h.line.lt hm h.line.kb), ⟨h.g8n.1, by have := h.g8n.2; omega⟩, (h.lw.chgK hc (kn _ (by decide)) (kn _ (by decide))).mono (fun b hb => by omega), (h.head.chgK hc (kn _ (by decide))).mono (fun b hb => ⟨by have := hb.1; omega, hb.2⟩), (h.org.chgK hc (kn _ (by decide))).mono (fun b hb => ⟨by have := hb.1; omega, hb.2⟩), (h.snaps.chgK hc (kn _ (by decide))).mono (fun b hb => ⟨hb.1, by have := hb.2; omega⟩),
    fun r hr => ((h.inner r hr).chgK hc (kn _ (by decide))).mono (fun b hb => ⟨by have := hb.1; omega, hb.2⟩), (h.births.chgK hc (kn _ (by decide))).mono (fun b hb => ⟨hb.1, by have := hb.2; omega⟩), ?_, Nat.le_refl _, h.hw.chg hc (fun b h1 h2 => by have := (h.free.at_.eqb h2).1; omega)⟩
  refine ⟨fun a ea => ⟨?_, (hr.lt.at_ a ea).2⟩, hr.own⟩
  rcases hf with e2 | e2
  · exact (h.free.at_ a (by rw [← e2]; exact ea)).1
  · have := e2 a ea
    have := h.hw.size
    omega
/-- the snapshots -/
theorem EX.setS (h : EX w0 n g8 x w) {ao2 : Option Addr} {c2 : Nat} {sn2 : List RwI} (hr : Row S w' 55 erowI ao2 c2 sn2) (hc : Chg M w w') (hM : ∀ b, b < w.heap.size → M b → Eqb x.sao b ∨ n ≤ b ∧ kb w b = some (some 55)) (hf : ao2 = x.sao ∨ At (n ≤ ·) ao2)
    (hi : ∀ r ∈ sn2, r ∈ x.sn ∨ Row (n ≤ ·) w 3 ei r.ao r.cap r.xs) : EX w0 w'.heap.size g8 { x with sao := ao2, sc := c2, sn := sn2 } w' := by
  have kn : ∀ T : TypeId, T ≠ 55 → ∀ b, b < w.heap.size → M b → kb w b ≠ some (some T) := fun T hT b hlt e e2 => by
    have : kb w b = some (some 55) := by
      rcases hM b hlt e with h1 | h1
      · exact (h.snaps.kb.at_.eqb h1).2
      · exact h1.2
    have := this.symm.trans e2
    injection this with this
    injection this with this
    exact hT this.symm
  have hz := hc.size
  have hle := h.le
  refine ⟨h.line.chg hc (fun hm => kn _ (by decide) _ h.line.lt hm h.line.kb), ⟨h.g8n.1, by have := h.g8n.2; omega⟩, (h.lw.chgK hc (kn _ (by decide)) (kn _ (by decide))).mono (fun b hb => by omega), (h.head.chgK hc (kn _ (by decide))).mono (fun b hb => ⟨by have := hb.1; omega, hb.2⟩), (h.org.chgK hc (kn _ (by decide))).mono (fun b hb => ⟨by have := hb.1; omega, hb.2⟩), ?_,
    fun r hr2 => ?_, (h.births.chgK hc (kn _ (by decide))).mono (fun b hb => ⟨hb.1, by have := hb.2; omega⟩), (h.free.chgK hc (kn _ (by decide))).mono (fun b hb => ⟨hb.1, by have := hb.2; omega⟩), Nat.le_refl _, h.hw.chg hc (fun b h1 h2 => by
      have := h.hw.size
      rcases hM b (by omega) h2 with h3 | h3
      · have := (h.snaps.at_.eqb h3).1; omega
      · have := h.g8n; omega)⟩
  · refine ⟨fun a ea => ⟨?_, (hr.lt.at_ a ea).2⟩, hr.own⟩
    rcases hf with e2 | e2
    · exact (h.snaps.at_ a (by rw [← e2]; exact ea)).1
    · have := e2 a ea
      have := h.g8n
      omega
  · rcases hi r hr2 with h1 | h1
    · exact ((h.inner r h1).chgK hc (kn _ (by decide))).mono (fun b hb => ⟨by have := hb.1; omega, hb.2⟩)
    · exact (h1.lt.chgK hc (kn _ (by decide))).mono (fun b hb => ⟨by have := hb.2; omega, h.nb hb.1⟩)
end
end Go.Proofs.Ytgmkoieemmglpaa
