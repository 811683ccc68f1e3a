import Derived.Test.YtjeldcjchipdgaaDoorQLabelSectors7
namespace Go.Proofs.YtjeldcjchipdgaaDoor
open Go.RowKit Go.HL
set_option maxRecDepth 100000

theorem sx_drop (s : ByteArray) (n : Nat) : (s.extract n s.size).data.toList = s.data.toList.drop n := by
  simp
  rw [List.take_of_length_le (by simp)]
theorem sx_take (s : ByteArray) (n : Nat) : s.extract 0 n = ⟨(s.data.toList.take n).toArray⟩ := by
  apply ByteArray.ext
  apply Array.ext'
  simp
theorem sx_append (a b : List UInt8) : (⟨a.toArray⟩ : ByteArray) ++ ⟨b.toArray⟩ = ⟨(a ++ b).toArray⟩ := by
  apply ByteArray.ext
  simp
theorem docOpen_bad (s : ByteArray) (w : World) (hl : s.size < 32) :
    Calls Tryd.prog 66 [.string s].toArray w (Ret fun v w' => v = .tuple #[.string ⟨(openR s.data.toList).1.toArray⟩, vi (openR s.data.toList).2] ∧ Chg Nob w w') := by
  have hw := Chg.refl Nob w
  have hsz : s.data.toList.length = s.size := by simp
  refine Calls.of_WC Tryd.func66 rfl Tryd.ntmps66 (by simp) ?_
  refine WC.seq (WC.region (WL.assign rfl rfl (WL.assign rfl rfl (WL.nil (WX.then_normal (WC.seq (WC.seq (?_))))))))
  refine WC.draw (Nob) [0, 1, 2, 3, 4, 5, 6, 7, 8, 9, 10, 11, 12, 13, 14, 15, 16] [] mixed rfl rfl (fun wd_1 kd_1 zd_1 => ?_)
  have zs_kd_1 := kd_1.size
  replace hw := hw.pure kd_1
  apply DQ.step (E' := [(0, _)])
  case ho => rfl
  case hs => exact ⟨rfl, trivial⟩
  case hk => rfl
  case h1 =>
    intro wq_2 kq_2
    refine WL.move rfl rfl (?_)
    refine WL.nil ?_
    exact WX.one ⟨rfl, by exact Chg.refl _ _⟩
  apply DQ.step (E' := [(4, _)])
  case ho => rfl
  case hs => exact ⟨rfl, trivial⟩
  case hk => rfl
  case h1 =>
    intro wq_3 kq_3
    have zs_kq_3 := kq_3.size
    replace hw := hw.pure kq_3
    refine WL.lens Tryd.underlying9 rfl rfl (?_)
    refine WL.nil ?_
    exact WX.one ⟨rfl, by exact Chg.refl _ _⟩
  apply DQ.step (E' := [(5, _)])
  case ho => rfl
  case hs => exact ⟨rfl, trivial⟩
  case hk => rfl
  case h1 =>
    intro wq_4 kq_4
    refine WL.lss rfl rfl rfl ?_
    rw [show decide ((s.size : Int) < 32) = true from decide_eq_true (by omega)]
    refine WL.nil ?_
    exact WX.one ⟨rfl, by exact Chg.refl _ _⟩
  apply DQ.step (E' := [(6, _)])
  case ho => rfl
  case hs => exact ⟨rfl, trivial⟩
  case hk => rfl
  case h1 =>
    intro wq_5 kq_5
    refine WL.move rfl rfl (?_)
    refine WL.nil ?_
    exact WX.one ⟨rfl, by exact Chg.refl _ _⟩
  apply DQ.step (E' := [(0, _), (7, _)])
  case ho => rfl
  case hs => exact ⟨rfl, rfl, trivial⟩
  case hk => rfl
  case h1 =>
    intro wq_6 kq_6
    refine WL.pass rfl rfl rfl rfl (WL.nil (?_))
    exact WX.one ⟨rfl, by exact Chg.refl _ _⟩
  apply DQ.step (E' := [(0, _), (7, _)])
  case ho => rfl
  case hs => exact ⟨rfl, rfl, trivial⟩
  case hk => rfl
  case h1 =>
    intro wq_7 kq_7
    refine WL.pass rfl rfl rfl rfl (WL.nil (?_))
    exact WX.one ⟨rfl, by exact Chg.refl _ _⟩
  apply DQ.step (E' := [(9, _), (7, _)])
  case ho => rfl
  case hs => exact ⟨rfl, rfl, trivial⟩
  case hk => rfl
  case h1 =>
    intro wq_8 kq_8
    have zs_kq_8 := kq_8.size
    replace hw := hw.pure kq_8
    refine WL.pass rfl rfl rfl rfl (WL.nil (?_))
    exact WX.one ⟨rfl, by exact Chg.refl _ _⟩
  apply DQ.step (E' := [(10, _), (7, _)])
  case ho => rfl
  case hs => exact ⟨rfl, rfl, trivial⟩
  case hk => rfl
  case h1 =>
    intro wq_9 kq_9
    refine WL.pass rfl rfl rfl rfl (WL.nil (?_))
    exact WX.one ⟨rfl, by exact Chg.refl _ _⟩
  apply DQ.step (E' := [(8, _), (11, _), (7, _)])
  case ho => rfl
  case hs => exact ⟨rfl, rfl, rfl, trivial⟩
  case hk => rfl
  case h1 =>
    intro wq_10 kq_10
    have zs_kq_10 := kq_10.size
    replace hw := hw.pure kq_10
    refine WL.pass rfl rfl rfl rfl (WL.nil (?_))
    exact WX.one ⟨rfl, by exact Chg.refl _ _⟩
  apply DQ.step (E' := [(12, _), (7, _)])
  case ho => rfl
  case hs => exact ⟨rfl, rfl, trivial⟩
  case hk => rfl
  case h1 =>
    intro wq_11 kq_11
    have zs_kq_11 := kq_11.size
    replace hw := hw.pure kq_11
    refine WL.pass rfl rfl rfl rfl (WL.nil (?_))
    exact WX.one ⟨rfl, by exact Chg.refl _ _⟩
  apply DQ.step (E' := [(0, _), (7, _)])
  case ho => rfl
  case hs => exact ⟨rfl, rfl, trivial⟩
  case hk => rfl
  case h1 =>
    intro wq_12 kq_12
    refine WL.pass rfl rfl rfl rfl (WL.nil (?_))
    exact WX.one ⟨rfl, by exact Chg.refl _ _⟩
  apply DQ.step (E' := [(0, _), (7, _)])
  case ho => rfl
  case hs => exact ⟨rfl, rfl, trivial⟩
  case hk => rfl
  case h1 =>
    intro wq_13 kq_13
    refine WL.pass rfl rfl rfl rfl (WL.nil (?_))
    exact WX.one ⟨rfl, by exact Chg.refl _ _⟩
  apply DQ.step (E' := [(15, _), (7, _)])
  case ho => rfl
  case hs => exact ⟨rfl, rfl, trivial⟩
  case hk => rfl
  case h1 =>
    intro wq_14 kq_14
    have zs_kq_14 := kq_14.size
    replace hw := hw.pure kq_14
    refine WL.pass rfl rfl rfl rfl (WL.nil (?_))
    exact WX.one ⟨rfl, by exact Chg.refl _ _⟩
  apply DQ.step (E' := [(16, _), (7, _)])
  case ho => rfl
  case hs => exact ⟨rfl, rfl, trivial⟩
  case hk => rfl
  case h1 =>
    intro wq_15 kq_15
    refine WL.pass rfl rfl rfl rfl (WL.nil (?_))
    exact WX.one ⟨rfl, by exact Chg.refl _ _⟩
  apply DQ.step (E' := [(14, _), (17, _), (7, _)])
  case ho => rfl
  case hs => exact ⟨rfl, rfl, rfl, trivial⟩
  case hk => rfl
  case h1 =>
    intro wq_16 kq_16
    have zs_kq_16 := kq_16.size
    replace hw := hw.pure kq_16
    refine WL.pass rfl rfl rfl rfl (WL.nil (?_))
    exact WX.one ⟨rfl, by exact Chg.refl _ _⟩
  apply DQ.step (E' := [(13, _), (18, _), (7, _)])
  case ho => rfl
  case hs => exact ⟨rfl, rfl, rfl, trivial⟩
  case hk => rfl
  case h1 =>
    intro wq_17 kq_17
    refine WL.pass rfl rfl rfl rfl (WL.nil (?_))
    exact WX.one ⟨rfl, by exact Chg.refl _ _⟩
  apply DQ.step (E' := [(7, _), (19, _)])
  case ho => rfl
  case hs => exact ⟨rfl, rfl, trivial⟩
  case hk => rfl
  case h1 =>
    intro wq_18 kq_18
    refine WL.pickT rfl rfl rfl (?_)
    refine WL.nil ?_
    exact WX.one ⟨rfl, by exact Chg.refl _ _⟩
  refine DQ.done (fun _ => ?_)
  refine DL.done (fun we_19 ke_19 => ?_)
  have zs_ke_19 := ke_19.size
  replace hw := hw.pure ke_19
  refine WX.then_normal (WC.cond_true rfl (WC.seq (WC.region (WL.assign rfl rfl (WL.assign rfl rfl (WL.nil (WX.then_normal (?_))))))))
  refine WC.ret (WX.then_ret (?_))
  refine WX.ret2 (.inl rfl) Tryd.results66 rfl rfl ?_
  rw [openR, if_neg (by omega)]
  exact ⟨_, rfl, rfl, hw⟩
theorem docOpen_good (s : ByteArray) (w : World) (n : Nat) (hn : s.size = n + 32) (hl : s.size ≤ 4000) :
    Calls Tryd.prog 66 [.string s].toArray w (Ret fun v w' => v = .tuple #[.string ⟨(openR s.data.toList).1.toArray⟩, vi (openR s.data.toList).2] ∧ Chg Nob w w') := by
  have hw := Chg.refl Nob w
  have hsz : s.data.toList.length = s.size := by simp
  obtain ⟨b, eb0⟩ : ∃ b, b = s.data.toList := ⟨_, rfl⟩
  have x1 : s.extract 0 n = ⟨(b.take n).toArray⟩ := by rw [sx_take, ← eb0]
  have x2 : s.extract n s.size = ⟨(b.drop n).toArray⟩ := by
    apply ByteArray.ext
    apply Array.ext'
    rw [sx_drop, ← eb0]
  have e3 : b.length - 32 = n := by rw [eb0]; omega
  have hbl : b.length = n + 32 := by rw [eb0]; omega
  rw [← eb0]
  refine Calls.of_WC Tryd.func66 rfl Tryd.ntmps66 (by simp) ?_
  refine WC.seq (WC.region (WL.assign rfl rfl (WL.assign rfl rfl (WL.nil (WX.then_normal (WC.seq (WC.seq (?_))))))))
  refine WC.draw (Nob) [0, 1, 2, 3, 4, 5, 6, 7, 8, 9, 10, 11, 12, 13, 14, 15, 16] [] mixed rfl rfl (fun wd_1 kd_1 zd_1 => ?_)
  have zs_kd_1 := kd_1.size
  replace hw := hw.pure kd_1
  apply DQ.step (E' := [(0, _)])
  case ho => rfl
  case hs => exact ⟨rfl, trivial⟩
  case hk => rfl
  case h1 =>
    intro wq_2 kq_2
    refine WL.move rfl rfl (?_)
    refine WL.nil ?_
    exact WX.one ⟨rfl, by exact Chg.refl _ _⟩
  apply DQ.step (E' := [(4, _)])
  case ho => rfl
  case hs => exact ⟨rfl, trivial⟩
  case hk => rfl
  case h1 =>
    intro wq_3 kq_3
    have zs_kq_3 := kq_3.size
    replace hw := hw.pure kq_3
    refine WL.lens Tryd.underlying9 rfl rfl (?_)
    refine WL.nil ?_
    exact WX.one ⟨rfl, by exact Chg.refl _ _⟩
  apply DQ.step (E' := [(5, _)])
  case ho => rfl
  case hs => exact ⟨rfl, trivial⟩
  case hk => rfl
  case h1 =>
    intro wq_4 kq_4
    refine WL.lss rfl rfl rfl ?_
    rw [show decide ((s.size : Int) < 32) = false from decide_eq_false (by omega)]
    refine WL.nil ?_
    exact WX.one ⟨rfl, by exact Chg.refl _ _⟩
  apply DQ.step (E' := [(6, _)])
  case ho => rfl
  case hs => exact ⟨rfl, trivial⟩
  case hk => rfl
  case h1 =>
    intro wq_5 kq_5
    refine WL.move rfl rfl (?_)
    refine WL.nil ?_
    exact WX.one ⟨rfl, by exact Chg.refl _ _⟩
  apply DQ.step (E' := [(0, _), (7, _)])
  case ho => rfl
  case hs => exact ⟨rfl, rfl, trivial⟩
  case hk => rfl
  case h1 =>
    intro wq_6 kq_6
    refine WL.want rfl rfl rfl (WL.move rfl rfl (?_))
    refine WL.nil ?_
    exact WX.one ⟨rfl, by exact Chg.refl _ _⟩
  apply DQ.step (E' := [(0, _), (7, _)])
  case ho => rfl
  case hs => exact ⟨rfl, rfl, trivial⟩
  case hk => rfl
  case h1 =>
    intro wq_7 kq_7
    refine WL.want rfl rfl rfl (WL.move rfl rfl (?_))
    refine WL.nil ?_
    exact WX.one ⟨rfl, by exact Chg.refl _ _⟩
  apply DQ.step (E' := [(9, _), (7, _)])
  case ho => rfl
  case hs => exact ⟨rfl, rfl, trivial⟩
  case hk => rfl
  case h1 =>
    intro wq_8 kq_8
    have zs_kq_8 := kq_8.size
    replace hw := hw.pure kq_8
    refine WL.want rfl rfl rfl (WL.lens Tryd.underlying9 rfl rfl (?_))
    refine WL.nil ?_
    exact WX.one ⟨rfl, by exact Chg.refl _ _⟩
  apply DQ.step (E' := [(10, _), (7, _)])
  case ho => rfl
  case hs => exact ⟨rfl, rfl, trivial⟩
  case hk => rfl
  case h1 =>
    intro wq_9 kq_9
    refine WL.want rfl rfl rfl (?_)
    refine WL.sub64 rfl rfl (by constructor <;> omega) rfl ?_
    rw [show ((s.size : Int) - 32) = (n : Int) from by omega]
    refine WL.nil ?_
    exact WX.one ⟨rfl, by exact Chg.refl _ _⟩
  apply DQ.step (E' := [(8, _), (11, _), (7, _)])
  case ho => rfl
  case hs => exact ⟨rfl, rfl, rfl, trivial⟩
  case hk => rfl
  case h1 =>
    intro wq_10 kq_10
    have zs_kq_10 := kq_10.size
    replace hw := hw.pure kq_10
    refine WL.want rfl rfl rfl (?_)
    refine WL.sslice (l := 0) (h := n) (k := .i64) Tryd.underlying9 rfl (.inr ⟨rfl, rfl⟩) (.inl rfl) (by constructor <;> omega) rfl ?_
    rw [x1]
    refine WL.nil ?_
    exact WX.one ⟨rfl, by exact Chg.refl _ _⟩
  apply DQ.step (E' := [(12, _), (7, _)])
  case ho => rfl
  case hs => exact ⟨rfl, rfl, trivial⟩
  case hk => rfl
  case h1 =>
    intro wq_11 kq_11
    have zs_kq_11 := kq_11.size
    replace hw := hw.pure kq_11
    refine WL.want rfl rfl rfl (?_)
    refine WL.call eg_63 rfl rfl (sum64_calls _ _ (by show (b.take n).toArray.size ≤ 4000; rw [List.size_toArray, List.length_take]; omega)) ?_
    rintro v w2 ⟨rfl, k⟩
    rw [show (⟨(b.take n).toArray⟩ : ByteArray).data.toList = b.take n from rfl]
    have zs_k := k.size
    replace hw := hw.pure k
    refine WL.nil ?_
    exact WX.one ⟨rfl, by assumption⟩
  apply DQ.step (E' := [(0, _), (7, _)])
  case ho => rfl
  case hs => exact ⟨rfl, rfl, trivial⟩
  case hk => rfl
  case h1 =>
    intro wq_12 kq_12
    refine WL.want rfl rfl rfl (WL.move rfl rfl (?_))
    refine WL.nil ?_
    exact WX.one ⟨rfl, by exact Chg.refl _ _⟩
  apply DQ.step (E' := [(0, _), (7, _)])
  case ho => rfl
  case hs => exact ⟨rfl, rfl, trivial⟩
  case hk => rfl
  case h1 =>
    intro wq_13 kq_13
    refine WL.want rfl rfl rfl (WL.move rfl rfl (?_))
    refine WL.nil ?_
    exact WX.one ⟨rfl, by exact Chg.refl _ _⟩
  apply DQ.step (E' := [(15, _), (7, _)])
  case ho => rfl
  case hs => exact ⟨rfl, rfl, trivial⟩
  case hk => rfl
  case h1 =>
    intro wq_14 kq_14
    have zs_kq_14 := kq_14.size
    replace hw := hw.pure kq_14
    refine WL.want rfl rfl rfl (WL.lens Tryd.underlying9 rfl rfl (?_))
    refine WL.nil ?_
    exact WX.one ⟨rfl, by exact Chg.refl _ _⟩
  apply DQ.step (E' := [(16, _), (7, _)])
  case ho => rfl
  case hs => exact ⟨rfl, rfl, trivial⟩
  case hk => rfl
  case h1 =>
    intro wq_15 kq_15
    refine WL.want rfl rfl rfl (?_)
    refine WL.sub64 rfl rfl (by constructor <;> omega) rfl ?_
    rw [show ((s.size : Int) - 32) = (n : Int) from by omega]
    refine WL.nil ?_
    exact WX.one ⟨rfl, by exact Chg.refl _ _⟩
  apply DQ.step (E' := [(14, _), (17, _), (7, _)])
  case ho => rfl
  case hs => exact ⟨rfl, rfl, rfl, trivial⟩
  case hk => rfl
  case h1 =>
    intro wq_16 kq_16
    have zs_kq_16 := kq_16.size
    replace hw := hw.pure kq_16
    refine WL.want rfl rfl rfl (?_)
    refine WL.sslice (l := n) (h := s.size) (j := .i64) Tryd.underlying9 rfl (.inl rfl) (.inr ⟨rfl, rfl⟩) (by constructor <;> omega) rfl ?_
    rw [x2]
    refine WL.nil ?_
    exact WX.one ⟨rfl, by exact Chg.refl _ _⟩
  apply DQ.split (E' := [(13, _), (18, _), (7, _)])
  case ho => rfl
  case hs => exact ⟨rfl, rfl, rfl, trivial⟩
  case hk => rfl
  case h1 =>
    intro wq_17 kq_17
    refine WL.want rfl rfl rfl (?_)
    refine WL.sneq rfl rfl rfl ?_
    refine WL.nil ?_
    exact WX.one ⟨rfl, by exact Chg.refl _ _⟩
  case ht =>
    intro h19
    replace h19 := of_decide_eq_true h19
    apply DQ.step (E' := [(7, _), (19, _)])
    case ho => rfl
    case hs => exact ⟨rfl, rfl, trivial⟩
    case hk => rfl
    case h1 =>
      intro wq_18 kq_18
      refine WL.pickF rfl rfl rfl (?_)
      refine WL.nil ?_
      exact WX.one ⟨rfl, by exact Chg.refl _ _⟩
    refine DQ.done (fun _ => ?_)
    refine DL.done (fun we_19 ke_19 => ?_)
    have zs_ke_19 := ke_19.size
    replace hw := hw.pure ke_19
    refine WX.then_normal (WC.cond_true rfl (WC.seq (WC.region (WL.assign rfl rfl (WL.assign rfl rfl (WL.nil (WX.then_normal (?_))))))))
    refine WC.ret (WX.then_ret (?_))
    refine WX.ret2 (.inl rfl) Tryd.results66 rfl rfl ?_
    simp only [openR, e3]
    first
      | (have h2 : sumB (b.take n) = b.drop n := by
           have h3 := congrArg (fun s : ByteArray => s.data.toList) (Classical.not_not.1 h19)
           exact h3
         rw [if_pos ⟨by omega, h2⟩]
         exact ⟨_, rfl, rfl, hw⟩)
      | (have h2 : ¬ sumB (b.take n) = b.drop n := fun h => h19 (by rw [h])
         rw [if_neg (fun h => h2 h.2)]
         exact ⟨_, rfl, rfl, hw⟩)
  case hf =>
    intro h19
    replace h19 := of_decide_eq_false h19
    apply DQ.step (E' := [(7, _), (19, _)])
    case ho => rfl
    case hs => exact ⟨rfl, rfl, trivial⟩
    case hk => rfl
    case h1 =>
      intro wq_18 kq_18
      refine WL.pickF rfl rfl rfl (?_)
      refine WL.nil ?_
      exact WX.one ⟨rfl, by exact Chg.refl _ _⟩
    refine DQ.done (fun _ => ?_)
    refine DL.done (fun we_19 ke_19 => ?_)
    have zs_ke_19 := ke_19.size
    replace hw := hw.pure ke_19
    refine WX.then_normal (WC.cond_false rfl (WC.skip (WX.then_normal (WC.seq (WC.region (WL.move rfl rfl (WL.move rfl rfl (?_))))))))
    refine WL.lens Tryd.underlying9 rfl rfl (?_)
    refine WL.sub64 rfl rfl (by constructor <;> omega) rfl ?_
    rw [show ((s.size : Int) - 32) = (n : Int) from by omega]
    refine WL.sslice (l := 0) (h := n) (k := .i64) Tryd.underlying9 rfl (.inr ⟨rfl, rfl⟩) (.inl rfl) (by constructor <;> omega) rfl ?_
    rw [x1]
    refine WL.assign rfl rfl (WL.assign rfl rfl (WL.nil (WX.then_normal (WC.ret (?_)))))
    refine WX.ret2 (.inl rfl) Tryd.results66 rfl rfl ?_
    simp only [openR, e3]
    first
      | (have h2 : sumB (b.take n) = b.drop n := by
           have h3 := congrArg (fun s : ByteArray => s.data.toList) (Classical.not_not.1 h19)
           exact h3
         rw [if_pos ⟨by omega, h2⟩]
         exact ⟨_, rfl, rfl, hw⟩)
      | (have h2 : ¬ sumB (b.take n) = b.drop n := fun h => h19 (by rw [h])
         rw [if_neg (fun h => h2 h.2)]
         exact ⟨_, rfl, rfl, hw⟩)
theorem docOpen_calls (s : ByteArray) (w : World) (hl : s.size ≤ 4000) :
    Calls Tryd.prog 66 [.string s].toArray w (Ret fun v w' => v = .tuple #[.string ⟨(openR s.data.toList).1.toArray⟩, vi (openR s.data.toList).2] ∧ Chg Nob w w') := by
  rcases Nat.lt_or_ge s.size 32 with h | h
  · exact docOpen_bad s w h
  · exact docOpen_good s w (s.size - 32) (by omega) hl
end Go.Proofs.YtjeldcjchipdgaaDoor
namespace Go.Proofs.YtjeldcjchipdgaaDoor
open Go.RowKit Go.HL
set_option maxRecDepth 100000

/-! a sector -/
/-- c, sealed, in a sector -/
def sec (c : List UInt8) : List UInt8 := B8 ((c.length : Int) + 32) :: (c ++ sumB c) ++ List.replicate (95 - c.length) 0
def secE (l : List Item) : Int := if checkE l = 0 then (if 95 < (encAll l).length then 14 else 0) else checkE l
def secB (l : List Item) : List UInt8 := if secE l = 0 then sec (encAll l) else []
theorem sec_len {c : List UInt8} (h : c.length ≤ 95) : (sec c).length = 128 := by
  simp [sec, sumB_len]
  omega
theorem sec_made {B Z Y : List UInt8} (eZ : Z = List.replicate 128 (0 : UInt8)) (eY : Y = Z.set 0 (B8 ((B ++ sumB B).length : Int))) (hl : (B ++ sumB B).length = B.length + 32) (hb : B.length ≤ 95) : Y.take 1 ++ (B ++ sumB B) ++ Y.drop (1 + (B ++ sumB B).length) = sec B := by
  have e1 : List.replicate 128 (0 : UInt8) = 0 :: List.replicate 127 0 := rfl
  rw [eY, eZ, e1, List.set_cons_zero, hl, show 1 + (B.length + 32) = (B.length + 32) + 1 from by omega, List.drop_succ_cons, List.drop_replicate, sec]
  rw [show (((B.length + 32 : Nat)) : Int) = (B.length : Int) + 32 from by omega, show 127 - (B.length + 32) = 95 - B.length from by omega]
  rfl
theorem sector_calls {w : World} {ao : Option Addr} {c : Nat} {l : List Item} (hr : RSl (· < w.heap.size) w eit ao c l) (hl : l.length ≤ 9223372036854775807) :
    Calls Tryd.prog 37 [.slice ao l.length c].toArray w (Ret fun v w' => (∃ (ao' : Option Addr) (c' : Nat), v = .tuple #[.slice ao' (secB l).length c', vi (secE l)] ∧ Row (w.heap.size ≤ ·) w' 5 eb ao' c' (secB l)) ∧ Chg Nob w w') := by
  have kk := Chg.refl Nob w
  refine Calls.of_WC Tryd.func37 rfl Tryd.ntmps37 (by simp) ?_
  refine WC.seq (WC.region (WL.assign rfl rfl (WL.assign rfl rfl (WL.nil (WX.then_normal (WC.seq (WC.region (?_))))))))
  refine WL.move rfl rfl (?_)
  refine WL.call eg_64 rfl rfl (encode_calls hr hl) ?_
  rintro v w1 ⟨a1, c1, rfl, hq, k1⟩
  obtain ⟨B, eB⟩ : ∃ B, B = (if checkE l = 0 then encAll l else []) := ⟨_, rfl⟩
  rw [← eB] at hq ⊢
  have hBl : B.length ≤ 140737488351232 := by
    rw [eB]
    split
    ·
      rename_i h0
      obtain ⟨h1, h2⟩ := checkE_ok h0
      have := encAll_len h2
      omega
    ·
      simp
  have zs_k1 := k1.size
  replace hr := hr.pure k1
  replace kk := kk.pure k1
  replace hq := hq.lt
  refine WL.move rfl rfl (WL.extract rfl rfl rfl (WL.extract rfl rfl rfl (WL.assign rfl rfl (WL.assign rfl rfl (WL.nil (WX.then_normal (WC.seq (?_))))))))
  refine WC.seq (WC.region (WL.move rfl rfl (?_)))
  refine WL.neq? rfl rfl rfl (fun h13 => ?_) (fun h13 => ?_)
  ·
    refine WL.nil (WX.then_normal (WC.cond_true rfl (WC.seq (WC.region (WL.move rfl rfl (WL.assign rfl rfl (WL.assign rfl rfl (?_))))))))
    refine WL.nil (WX.then_normal (WC.ret (WX.then_ret (?_))))
    refine WX.ret2 (.inl rfl) Tryd.results37 rfl rfl ?_
    first
      | (have h1 : secE l = checkE l := by rw [secE, if_neg h13]
         refine ⟨_, rfl, ⟨none, 0, ?_, ?_⟩, kk⟩
         ·
           rw [secB, h1, if_neg h13]
           rfl
         ·
           rw [secB, h1, if_neg h13]
           exact Row.nil _ _ _ _)
      | (have hB : B = encAll l := by rw [eB, if_pos h13]
         have hB2 : 95 < (encAll l).length := by rw [← hB]; omega
         have h1 : secE l = 14 := by rw [secE, if_pos h13, if_pos hB2]
         refine ⟨_, rfl, ⟨none, 0, ?_, ?_⟩, kk⟩
         ·
           rw [secB, h1, if_neg (by decide)]
           rfl
         ·
           rw [secB, h1, if_neg (by decide)]
           exact Row.nil _ _ _ _)
      | (have hB : B = encAll l := by rw [eB, if_pos h13]
         have hB2 : ¬ 95 < (encAll l).length := by rw [← hB]; omega
         have h1 : secE l = 0 := by rw [secE, if_pos h13, if_neg hB2]
         have h2 : Y.take 1 ++ (B ++ sumB B) ++ Y.drop (1 + (B ++ sumB B).length) = secB l := by
           rw [secB, h1, if_pos rfl, ← hB]
           exact sec_made eZ eY hbl2 (by omega)
         rw [h2] at hO7
         refine ⟨_, rfl, ⟨some ⟨g5, 0, none⟩, 128, ?_, hO7.mono (fun x hx => by omega)⟩, kk⟩
         rw [h1, secB, h1, if_pos rfl, sec_len (by omega)])
  ·
    refine WL.nil (WX.then_normal (WC.cond_false rfl (WC.skip (WX.then_normal (WC.seq (WC.seq (WC.region (?_))))))))
    refine WL.move rfl rfl (WL.len Tryd.underlying26 rfl rfl (WL.add64 rfl rfl (by omega) rfl (WL.add64 rfl rfl (by omega) rfl (?_))))
    refine WL.gtr? rfl rfl rfl (fun h19 => ?_) (fun h19 => ?_)
    ·
      refine WL.nil (WX.then_normal (WC.cond_true rfl (WC.seq (WC.region (WL.assign rfl rfl (WL.assign rfl rfl (WL.nil (?_))))))))
      refine WX.then_normal (WC.ret (WX.then_ret (?_)))
      refine WX.ret2 (.inl rfl) Tryd.results37 rfl rfl ?_
      first
        | (have h1 : secE l = checkE l := by rw [secE, if_neg h13]
           refine ⟨_, rfl, ⟨none, 0, ?_, ?_⟩, kk⟩
           ·
             rw [secB, h1, if_neg h13]
             rfl
           ·
             rw [secB, h1, if_neg h13]
             exact Row.nil _ _ _ _)
        | (have hB : B = encAll l := by rw [eB, if_pos h13]
           have hB2 : 95 < (encAll l).length := by rw [← hB]; omega
           have h1 : secE l = 14 := by rw [secE, if_pos h13, if_pos hB2]
           refine ⟨_, rfl, ⟨none, 0, ?_, ?_⟩, kk⟩
           ·
             rw [secB, h1, if_neg (by decide)]
             rfl
           ·
             rw [secB, h1, if_neg (by decide)]
             exact Row.nil _ _ _ _)
        | (have hB : B = encAll l := by rw [eB, if_pos h13]
           have hB2 : ¬ 95 < (encAll l).length := by rw [← hB]; omega
           have h1 : secE l = 0 := by rw [secE, if_pos h13, if_neg hB2]
           have h2 : Y.take 1 ++ (B ++ sumB B) ++ Y.drop (1 + (B ++ sumB B).length) = secB l := by
             rw [secB, h1, if_pos rfl, ← hB]
             exact sec_made eZ eY hbl2 (by omega)
           rw [h2] at hO7
           refine ⟨_, rfl, ⟨some ⟨g5, 0, none⟩, 128, ?_, hO7.mono (fun x hx => by omega)⟩, kk⟩
           rw [h1, secB, h1, if_pos rfl, sec_len (by omega)])
    ·
      refine WL.nil (WX.then_normal (WC.cond_false rfl (WC.skip (WX.then_normal (WC.seq (WC.region (WL.move rfl rfl (?_))))))))
      have hq1 := hq.rsl
      refine WL.call eg_65 rfl rfl (seal_calls hq1 (by omega)) ?_
      rintro v w2 ⟨⟨a2, c2, rfl, hs⟩, k2⟩
      have zs_k2 := k2.size
      replace hr := hr.pure k2
      replace kk := kk.pure k2
      replace hq := hq.pure k2
      replace hs := hs.lt
      refine WL.assign rfl rfl (WL.nil (WX.then_normal (WC.seq (WC.region (?_)))))
      obtain ⟨Z, eZ⟩ : ∃ Z, Z = List.replicate 128 (0 : UInt8) := ⟨_, rfl⟩
      have hZl : Z.length = 128 := by rw [eZ, List.length_replicate]
      refine WL.make (e := eb) (0 : UInt8) 128 128 Tryd.underlying26 info_5 rfl rfl rfl ⟨rfl, rfl, Nat.le_refl _⟩ (by constructor <;> omega) rfl ?_
      intro g5 w5 hO k5 z5 e5
      rw [← eZ] at hO ⊢
      rw [hZl]
      have zs_k5 := k5.size
      replace hr := hr.pure k5
      replace kk := kk.pure k5
      replace hq := hq.pure k5
      replace hs := hs.pure k5
      refine WL.assign rfl rfl (WL.nil (WX.then_normal (WC.seq (WC.region (WL.move rfl rfl (WL.move rfl rfl (WL.len Tryd.underlying26 rfl rfl (?_))))))))
      refine WL.c_i64_u8 Tryd.underlying3 Tryd.underlying5 rfl rfl (?_)
      refine WL.index (j := 0) Tryd.underlying26 Tryd.sizeOf5 rfl rfl (by decide) (by omega) rfl ?_
      refine WL.storeRow (z := B8 ((B ++ sumB B).length : Int)) (0) Tryd.sizeOf5 hO rfl rfl rfl (by simp; done) (by omega) rfl ?_
      intro w_1 zs_1 nr_1 k_1
      have zs_k_1 := k_1.size
      replace hr := hr.chg k_1 (by intro b h1 h2 h3; have h4 : _ = _ := h3; (try dsimp only at h2); exfalso; omega)
      replace kk := kk.chg k_1 (by intro x h1 h2; have h3 : _ = _ := h2; exfalso; omega)
      replace hq := hq.chg k_1 (by intro b h1 h2 h3; have h4 : _ = _ := h3; (try dsimp only at h2); exfalso; omega)
      replace hs := hs.chg k_1 (by intro b h1 h2 h3; have h4 : _ = _ := h3; (try dsimp only at h2); exfalso; omega)
      replace hO := nr_1
      refine WL.nil (WX.then_normal (WC.seq (WC.region (WL.move rfl rfl (?_)))))
      obtain ⟨Y, eY⟩ : ∃ Y, Y = Z.set 0 (B8 ((B ++ sumB B).length : Int)) := ⟨_, rfl⟩
      rw [← eY] at hO
      have hYl : Y.length = 128 := by rw [eY, List.length_set, hZl]
      refine WL.sliceC (l := 1) (h := 128) (k := .i64) (j := .i64) Tryd.underlying26 Tryd.sizeOf5 hO.rsl (by rw [hYl]; rfl) (.inl rfl) (.inr ⟨rfl, hYl.symm⟩) ⟨by omega, by omega⟩ rfl ?_
      rw [show ((Y.take 128).drop 1).length = Y.length - 1 from by rw [List.length_drop, List.length_take]; omega]
      refine WL.move rfl rfl (?_)
      have hsl := sumB_len B
      have hbl2 : (B ++ sumB B).length = B.length + 32 := by rw [List.length_append, hsl]
      refine WL.copyRow (e := eb) (i := 1) Tryd.underlying26 (by kernel_rfl) rfl hO hs.rsl (by omega) (by omega) rfl rfl rfl ?_
      intro w7 z7 hO7 k7
      have zs_k7 := k7.size
      replace hr := hr.chg k7 (by intro b h1 h2 h3; have h4 : _ = _ := h3; (try dsimp only at h2); exfalso; omega)
      replace kk := kk.chg k7 (by intro x h1 h2; have h3 : _ = _ := h2; exfalso; omega)
      replace hq := hq.chg k7 (by intro b h1 h2 h3; have h4 : _ = _ := h3; (try dsimp only at h2); exfalso; omega)
      replace hs := hs.chg k7 (by intro b h1 h2 h3; have h4 : _ = _ := h3; (try dsimp only at h2); exfalso; omega)
      refine WL.nil (WX.then_normal (WC.seq (WC.region (WL.move rfl rfl (WL.assign rfl rfl (WL.assign rfl rfl (WL.nil (?_))))))))
      refine WX.then_normal (WC.ret (?_))
      refine WX.ret2 (.inl rfl) Tryd.results37 rfl rfl ?_
      first
        | (have h1 : secE l = checkE l := by rw [secE, if_neg h13]
           refine ⟨_, rfl, ⟨none, 0, ?_, ?_⟩, kk⟩
           ·
             rw [secB, h1, if_neg h13]
             rfl
           ·
             rw [secB, h1, if_neg h13]
             exact Row.nil _ _ _ _)
        | (have hB : B = encAll l := by rw [eB, if_pos h13]
           have hB2 : 95 < (encAll l).length := by rw [← hB]; omega
           have h1 : secE l = 14 := by rw [secE, if_pos h13, if_pos hB2]
           refine ⟨_, rfl, ⟨none, 0, ?_, ?_⟩, kk⟩
           ·
             rw [secB, h1, if_neg (by decide)]
             rfl
           ·
             rw [secB, h1, if_neg (by decide)]
             exact Row.nil _ _ _ _)
        | (have hB : B = encAll l := by rw [eB, if_pos h13]
           have hB2 : ¬ 95 < (encAll l).length := by rw [← hB]; omega
           have h1 : secE l = 0 := by rw [secE, if_pos h13, if_neg hB2]
           have h2 : Y.take 1 ++ (B ++ sumB B) ++ Y.drop (1 + (B ++ sumB B).length) = secB l := by
             rw [secB, h1, if_pos rfl, ← hB]
             exact sec_made eZ eY hbl2 (by omega)
           rw [h2] at hO7
           refine ⟨_, rfl, ⟨some ⟨g5, 0, none⟩, 128, ?_, hO7.mono (fun x hx => by omega)⟩, kk⟩
           rw [h1, secB, h1, if_pos rfl, sec_len (by omega)])
/-- what a sector holds -/
def unS (b : List UInt8) : Option (List Item) :=
  if b.length = 128 ∧ (b.getD 0 0).toNat < 128 ∧ (∀ x ∈ b.drop (1 + (b.getD 0 0).toNat), x = 0) ∧ (openR ((b.take (1 + (b.getD 0 0).toNat)).drop 1)).2 = 0 then dec 0 (openR ((b.take (1 + (b.getD 0 0).toNat)).drop 1)).1 else none
def unL (b : List UInt8) : List Item := (unS b).getD []
def unE (b : List UInt8) : Int := if (unS b).isSome then 0 else 2
theorem openR_len (b : List UInt8) : (openR b).1.length ≤ b.length := by
  unfold openR
  split
  · simp
  · simp
theorem openR_err (b : List UInt8) : (openR b).2 = 0 ∨ (openR b).2 = 2 := by
  unfold openR
  split
  · exact .inl rfl
  · exact .inr rfl
theorem un_none {b : List UInt8} (h : unS b = none) : unL b = [] ∧ unE b = 2 := by
  rw [unL, unE, h]
  exact ⟨rfl, rfl⟩
theorem un_no {b s r : List UInt8} {n : Nat} (hn : n = (b.getD 0 0).toNat) (hs : s = (b.take (1 + n)).drop 1) (hrs : r = b.drop (1 + n)) (h : ¬ (b.length = 128 ∧ n < 128 ∧ (∀ x ∈ r, x = 0) ∧ (openR s).2 = 0)) : unL b = [] ∧ unE b = 2 := by
  subst hn; subst hs; subst hrs
  exact un_none (by rw [unS, if_neg h])
theorem un_yes {b s r : List UInt8} {n : Nat} (hn : n = (b.getD 0 0).toNat) (hs : s = (b.take (1 + n)).drop 1) (hrs : r = b.drop (1 + n)) (h : b.length = 128 ∧ n < 128 ∧ (∀ x ∈ r, x = 0) ∧ (openR s).2 = 0) : unL b = decL (openR s).1 ∧ unE b = decE (openR s).1 := by
  subst hn; subst hs; subst hrs
  rw [unL, unE, unS, if_pos h]
  exact ⟨rfl, rfl⟩
theorem unsector_calls {w : World} {ao : Option Addr} {c : Nat} {b : List UInt8} (hr : RSl (· < w.heap.size) w eb ao c b) (hl : b.length ≤ 140737488351232) :
    Calls Tryd.prog 40 [.slice ao b.length c].toArray w (Ret fun v w' => (∃ (ao' : Option Addr) (c' : Nat), v = .tuple #[.slice ao' (unL b).length c', vi (unE b)] ∧ Row (w.heap.size ≤ ·) w' 75 eit ao' c' (unL b)) ∧ Chg Nob w w') := by
  have kk := Chg.refl Nob w
  obtain ⟨n, hn⟩ : ∃ n, n = (b.getD 0 0).toNat := ⟨_, rfl⟩
  obtain ⟨s, hs⟩ : ∃ s, s = (b.take (1 + n)).drop 1 := ⟨_, rfl⟩
  obtain ⟨r, hrs⟩ : ∃ r, r = b.drop (1 + n) := ⟨_, rfl⟩
  refine Calls.of_WC Tryd.func40 rfl Tryd.ntmps40 (by simp) ?_
  refine WC.seq (WC.region (WL.assign rfl rfl (WL.assign rfl rfl (WL.nil (WX.then_normal (WC.seq (WC.seq (?_))))))))
  refine WC.region (WL.move rfl rfl (WL.len Tryd.underlying26 rfl rfl (?_)))
  refine WL.neq? rfl rfl rfl (fun h10 => ?_) (fun h10 => ?_)
  ·
    refine WL.move rfl rfl (WL.pass rfl rfl rfl rfl (WL.pass rfl rfl rfl rfl (WL.pass rfl rfl rfl rfl (WL.pass rfl rfl rfl rfl (WL.pass rfl rfl rfl rfl (WL.pickT rfl rfl rfl (WL.nil (?_))))))))
    refine WX.then_normal (WC.cond_true rfl (WC.seq (WC.region (WL.assign rfl rfl (WL.assign rfl rfl (WL.nil (WX.then_normal (?_))))))))
    refine WC.ret (WX.then_ret (?_))
    refine WX.ret2 (.inl rfl) Tryd.results40 rfl rfl ?_
    by_cases hc : b.length = 128 ∧ n < 128 ∧ (∀ x ∈ r, x = 0) ∧ (openR s).2 = 0
    ·
      have hy := un_yes hn hs hrs hc
      obtain ⟨g1, g2, g3, g4⟩ := hc
      rw [hy.1, hy.2]
      first
        | (exact ⟨_, rfl, ⟨a3, c3, rfl, hq.mono (fun x hx => by omega)⟩, kk⟩)
        | (exfalso; have g5 := hm.2 g3; omega)
        | (exfalso; omega)
    ·
      have hy := un_no hn hs hrs hc
      have ho2 := openR_err s
      rw [hy.1, hy.2]
      first
        | (exact ⟨_, rfl, ⟨none, 0, rfl, Row.nil _ _ _ _⟩, kk⟩)
        | (have h9 : (openR s).2 = 2 := ho2.resolve_left (by assumption)
           refine ⟨_, rfl, ⟨none, 0, ?_, Row.nil _ _ _ _⟩, kk⟩
           rw [← h9]
           rfl)
        | (exfalso; exact hc ⟨by omega, by omega, hm.1 (by omega), by assumption⟩)
  ·
    refine WL.move rfl rfl (WL.want rfl rfl rfl (WL.move rfl rfl (WL.want rfl rfl rfl (?_))))
    obtain ⟨x, hx⟩ : ∃ x, b[0]? = some x := ⟨_, List.getElem?_eq_getElem (by omega)⟩
    have hxn : x.toNat = n := by rw [hn, List.getD_eq_getElem?_getD, hx]; rfl
    refine WL.indexT Tryd.underlying26 Tryd.sizeOf5 hr rfl rfl ⟨hx, rfl⟩ rfl ?_
    intro b_1 o_1 hc_1
    refine WL.want rfl rfl rfl (WL.load Tryd.isAgg5 rfl (hc_1 0 _ rfl) rfl (WL.want rfl rfl rfl (WL.c_u8_i64 Tryd.underlying5 Tryd.underlying3 rfl rfl (WL.want rfl rfl rfl (?_)))))
    refine WL.geq? rfl rfl rfl (fun h16 => ?_) (fun h16 => ?_)
    ·
      refine WL.pickF rfl rfl rfl (WL.nil (WX.then_normal (WC.cond_true rfl (WC.seq (WC.region (WL.assign rfl rfl (WL.assign rfl rfl (?_))))))))
      refine WL.nil (WX.then_normal (WC.ret (WX.then_ret (?_))))
      refine WX.ret2 (.inl rfl) Tryd.results40 rfl rfl ?_
      by_cases hc : b.length = 128 ∧ n < 128 ∧ (∀ x ∈ r, x = 0) ∧ (openR s).2 = 0
      ·
        have hy := un_yes hn hs hrs hc
        obtain ⟨g1, g2, g3, g4⟩ := hc
        rw [hy.1, hy.2]
        first
          | (exact ⟨_, rfl, ⟨a3, c3, rfl, hq.mono (fun x hx => by omega)⟩, kk⟩)
          | (exfalso; have g5 := hm.2 g3; omega)
          | (exfalso; omega)
      ·
        have hy := un_no hn hs hrs hc
        have ho2 := openR_err s
        rw [hy.1, hy.2]
        first
          | (exact ⟨_, rfl, ⟨none, 0, rfl, Row.nil _ _ _ _⟩, kk⟩)
          | (have h9 : (openR s).2 = 2 := ho2.resolve_left (by assumption)
             refine ⟨_, rfl, ⟨none, 0, ?_, Row.nil _ _ _ _⟩, kk⟩
             rw [← h9]
             rfl)
          | (exfalso; exact hc ⟨by omega, by omega, hm.1 (by omega), by assumption⟩)
    ·
      refine WL.pickF rfl rfl rfl (WL.nil (WX.then_normal (WC.cond_false rfl (WC.skip (WX.then_normal (WC.seq (?_)))))))
      have hb1 := hr.cut 1 (1 + n) ⟨by omega, by omega⟩
      have hb2 := hr.cut (1 + n) b.length ⟨by omega, by omega⟩
      obtain ⟨b0, o0, rfl⟩ := hr.place hx
      refine WC.draw (Nob) [0, 1, 2, 3, 4, 5, 6, 7, 8, 9, 10, 11, 12, 13, 14, 15] [] mixed rfl rfl (fun wd_2 kd_2 zd_2 => ?_)
      have zs_kd_2 := kd_2.size
      replace hr := hr.pure kd_2
      replace kk := kk.pure kd_2
      replace hb1 := hb1.pure kd_2
      replace hb2 := hb2.pure kd_2
      apply DQ.step (E' := [(0, _)])
      case ho => rfl
      case hs => exact ⟨rfl, trivial⟩
      case hk => rfl
      case h1 =>
        intro wq_3 kq_3
        refine WL.move rfl rfl (?_)
        refine WL.nil ?_
        exact WX.one ⟨rfl, by exact Chg.refl _ _⟩
      apply DQ.step (E' := [(0, _)])
      case ho => rfl
      case hs => exact ⟨rfl, trivial⟩
      case hk => rfl
      case h1 =>
        intro wq_4 kq_4
        refine WL.move rfl rfl (?_)
        refine WL.nil ?_
        exact WX.one ⟨rfl, by exact Chg.refl _ _⟩
      apply DQ.step (E' := [(19, _)])
      case ho => rfl
      case hs => exact ⟨rfl, trivial⟩
      case hk => rfl
      case h1 =>
        intro wq_5 kq_5
        have zs_kq_5 := kq_5.size
        replace hr := hr.pure kq_5
        replace kk := kk.pure kq_5
        replace hb1 := hb1.pure kq_5
        replace hb2 := hb2.pure kq_5
        refine WL.indexC hr Tryd.underlying26 Tryd.sizeOf5 rfl rfl ⟨hx, rfl⟩ rfl ?_
        refine WL.nil ?_
        exact WX.one ⟨rfl, by exact Chg.refl _ _⟩
      apply DQ.step (E' := [(20, _)])
      case ho => rfl
      case hs => exact ⟨rfl, trivial⟩
      case hk => rfl
      case h1 =>
        intro wq_6 kq_6
        have zs_kq_6 := kq_6.size
        replace hr := hr.pure kq_6
        replace kk := kk.pure kq_6
        replace hb1 := hb1.pure kq_6
        replace hb2 := hb2.pure kq_6
        refine WL.load Tryd.isAgg5 rfl ((hr.cellsAt hx) 0 _ rfl) rfl (?_)
        refine WL.nil ?_
        exact WX.one ⟨rfl, by exact Chg.refl _ _⟩
      apply DQ.step (E' := [(21, _)])
      case ho => rfl
      case hs => exact ⟨rfl, trivial⟩
      case hk => rfl
      case h1 =>
        intro wq_7 kq_7
        have zs_kq_7 := kq_7.size
        replace hr := hr.pure kq_7
        replace kk := kk.pure kq_7
        replace hb1 := hb1.pure kq_7
        replace hb2 := hb2.pure kq_7
        refine WL.c_u8_i64 Tryd.underlying5 Tryd.underlying3 rfl rfl (?_)
        refine WL.nil ?_
        exact WX.one ⟨rfl, by exact Chg.refl _ _⟩
      apply DQ.step (E' := [(22, _)])
      case ho => rfl
      case hs => exact ⟨rfl, trivial⟩
      case hk => rfl
      case h1 =>
        intro wq_8 kq_8
        refine WL.add64 rfl rfl (by constructor <;> omega) rfl ?_
        rw [show ((1 : Int) + x.toNat) = ((1 + n : Nat) : Int) from by omega]
        refine WL.nil ?_
        exact WX.one ⟨rfl, by exact Chg.refl _ _⟩
      apply DQ.step (E' := [(18, _), (23, _)])
      case ho => rfl
      case hs => exact ⟨rfl, rfl, trivial⟩
      case hk => rfl
      case h1 =>
        intro wq_9 kq_9
        have zs_kq_9 := kq_9.size
        replace hr := hr.pure kq_9
        replace kk := kk.pure kq_9
        replace hb1 := hb1.pure kq_9
        replace hb2 := hb2.pure kq_9
        refine WL.sliceC (l := 1) (h := 1 + n) Tryd.underlying26 Tryd.sizeOf5 hr rfl (.inl rfl) (.inl rfl) (by constructor <;> omega) rfl ?_
        refine WL.nil ?_
        exact WX.one ⟨rfl, by exact Chg.refl _ _⟩
      apply DQ.step (E' := [(0, _)])
      case ho => rfl
      case hs => exact ⟨rfl, trivial⟩
      case hk => rfl
      case h1 =>
        intro wq_10 kq_10
        refine WL.move rfl rfl (?_)
        refine WL.nil ?_
        exact WX.one ⟨rfl, by exact Chg.refl _ _⟩
      apply DQ.step (E' := [(0, _)])
      case ho => rfl
      case hs => exact ⟨rfl, trivial⟩
      case hk => rfl
      case h1 =>
        intro wq_11 kq_11
        refine WL.move rfl rfl (?_)
        refine WL.nil ?_
        exact WX.one ⟨rfl, by exact Chg.refl _ _⟩
      apply DQ.step (E' := [(26, _)])
      case ho => rfl
      case hs => exact ⟨rfl, trivial⟩
      case hk => rfl
      case h1 =>
        intro wq_12 kq_12
        have zs_kq_12 := kq_12.size
        replace hr := hr.pure kq_12
        replace kk := kk.pure kq_12
        replace hb1 := hb1.pure kq_12
        replace hb2 := hb2.pure kq_12
        refine WL.indexC hr Tryd.underlying26 Tryd.sizeOf5 rfl rfl ⟨hx, rfl⟩ rfl ?_
        refine WL.nil ?_
        exact WX.one ⟨rfl, by exact Chg.refl _ _⟩
      apply DQ.step (E' := [(27, _)])
      case ho => rfl
      case hs => exact ⟨rfl, trivial⟩
      case hk => rfl
      case h1 =>
        intro wq_13 kq_13
        have zs_kq_13 := kq_13.size
        replace hr := hr.pure kq_13
        replace kk := kk.pure kq_13
        replace hb1 := hb1.pure kq_13
        replace hb2 := hb2.pure kq_13
        refine WL.load Tryd.isAgg5 rfl ((hr.cellsAt hx) 0 _ rfl) rfl (?_)
        refine WL.nil ?_
        exact WX.one ⟨rfl, by exact Chg.refl _ _⟩
      apply DQ.step (E' := [(28, _)])
      case ho => rfl
      case hs => exact ⟨rfl, trivial⟩
      case hk => rfl
      case h1 =>
        intro wq_14 kq_14
        have zs_kq_14 := kq_14.size
        replace hr := hr.pure kq_14
        replace kk := kk.pure kq_14
        replace hb1 := hb1.pure kq_14
        replace hb2 := hb2.pure kq_14
        refine WL.c_u8_i64 Tryd.underlying5 Tryd.underlying3 rfl rfl (?_)
        refine WL.nil ?_
        exact WX.one ⟨rfl, by exact Chg.refl _ _⟩
      apply DQ.step (E' := [(29, _)])
      case ho => rfl
      case hs => exact ⟨rfl, trivial⟩
      case hk => rfl
      case h1 =>
        intro wq_15 kq_15
        refine WL.add64 rfl rfl (by constructor <;> omega) rfl ?_
        rw [show ((1 : Int) + x.toNat) = ((1 + n : Nat) : Int) from by omega]
        refine WL.nil ?_
        exact WX.one ⟨rfl, by exact Chg.refl _ _⟩
      apply DQ.step (E' := [(25, _), (30, _)])
      case ho => rfl
      case hs => exact ⟨rfl, rfl, trivial⟩
      case hk => rfl
      case h1 =>
        intro wq_16 kq_16
        have zs_kq_16 := kq_16.size
        replace hr := hr.pure kq_16
        replace kk := kk.pure kq_16
        replace hb1 := hb1.pure kq_16
        replace hb2 := hb2.pure kq_16
        refine WL.sliceC (l := 1 + n) (h := b.length) (j := .i64) Tryd.underlying26 Tryd.sizeOf5 hr rfl (.inl rfl) (.inr ⟨rfl, rfl⟩) (by constructor <;> omega) rfl ?_
        refine WL.nil ?_
        exact WX.one ⟨rfl, by exact Chg.refl _ _⟩
      apply DQ.step (E' := [(24, _)])
      case ho => rfl
      case hs => exact ⟨rfl, trivial⟩
      case hk => rfl
      case h1 =>
        intro wq_17 kq_17
        refine WL.assign rfl rfl (?_)
        refine WL.nil ?_
        exact WX.one ⟨rfl, by exact Chg.refl _ _⟩
      apply DQ.step (E' := [(31, _)])
      case ho => rfl
      case hs => exact ⟨rfl, trivial⟩
      case hk => rfl
      case h1 =>
        intro wq_18 kq_18
        refine WL.assign rfl rfl (?_)
        refine WL.nil ?_
        exact WX.one ⟨rfl, by exact Chg.refl _ _⟩
      refine DQ.done (fun _ => ?_)
      refine DL.done (fun we_19 ke_19 => ?_)
      have zs_ke_19 := ke_19.size
      replace hr := hr.pure ke_19
      replace kk := kk.pure ke_19
      replace hb1 := hb1.pure ke_19
      replace hb2 := hb2.pure ke_19
      refine WX.then_normal (WC.seq (WC.seq (WC.region (WL.move rfl rfl (?_)))))
      have e2 : (b.take b.length).drop (1 + n) = r := by rw [List.take_length, hrs]
      rw [e2] at hb2 ⊢
      rw [← hs] at hb1 ⊢
      have hb2' := hb2.old
      refine WL.call eg_68 rfl rfl (trim_calls hb2' (by rw [hrs, List.length_drop]; omega)) ?_
      rintro v w1 ⟨⟨m, a1, c1, rfl, hm⟩, k1⟩
      have zs_k1 := k1.size
      replace hr := hr.pure k1
      replace kk := kk.pure k1
      replace hb1 := hb1.pure k1
      replace hb2 := hb2.pure k1
      refine WL.len Tryd.underlying26 rfl rfl (?_)
      refine WL.gtr? rfl rfl rfl (fun h35 => ?_) (fun h35 => ?_)
      ·
        refine WL.nil (WX.then_normal (WC.cond_true rfl (WC.seq (WC.region (WL.assign rfl rfl (WL.assign rfl rfl (WL.nil (?_))))))))
        refine WX.then_normal (WC.ret (WX.then_ret (?_)))
        refine WX.ret2 (.inl rfl) Tryd.results40 rfl rfl ?_
        by_cases hc : b.length = 128 ∧ n < 128 ∧ (∀ x ∈ r, x = 0) ∧ (openR s).2 = 0
        ·
          have hy := un_yes hn hs hrs hc
          obtain ⟨g1, g2, g3, g4⟩ := hc
          rw [hy.1, hy.2]
          first
            | (exact ⟨_, rfl, ⟨a3, c3, rfl, hq.mono (fun x hx => by omega)⟩, kk⟩)
            | (exfalso; have g5 := hm.2 g3; omega)
            | (exfalso; omega)
        ·
          have hy := un_no hn hs hrs hc
          have ho2 := openR_err s
          rw [hy.1, hy.2]
          first
            | (exact ⟨_, rfl, ⟨none, 0, rfl, Row.nil _ _ _ _⟩, kk⟩)
            | (have h9 : (openR s).2 = 2 := ho2.resolve_left (by assumption)
               refine ⟨_, rfl, ⟨none, 0, ?_, Row.nil _ _ _ _⟩, kk⟩
               rw [← h9]
               rfl)
            | (exfalso; exact hc ⟨by omega, by omega, hm.1 (by omega), by assumption⟩)
      ·
        refine WL.nil (WX.then_normal (WC.cond_false rfl (WC.skip (WX.then_normal (WC.seq (WC.region (WL.move rfl rfl (?_))))))))
        have hb1' := hb1.old
        refine WL.call eg_69 rfl rfl (open_calls hb1' (by rw [hs, List.length_drop, List.length_take]; omega)) ?_
        rintro v w2 ⟨⟨a2, c2, rfl, ho⟩, k2⟩
        have zs_k2 := k2.size
        replace hr := hr.pure k2
        replace kk := kk.pure k2
        replace hb1 := hb1.pure k2
        replace hb2 := hb2.pure k2
        replace ho := ho.lt
        refine WL.move rfl rfl (WL.extract rfl rfl rfl (WL.extract rfl rfl rfl (WL.assign rfl rfl (WL.assign rfl rfl (WL.nil (WX.then_normal (WC.seq (?_))))))))
        refine WC.seq (WC.region (WL.move rfl rfl (?_)))
        refine WL.neq? rfl rfl rfl (fun h42 => ?_) (fun h42 => ?_)
        ·
          refine WL.nil (WX.then_normal (WC.cond_true rfl (WC.seq (WC.region (WL.move rfl rfl (WL.assign rfl rfl (WL.assign rfl rfl (?_))))))))
          refine WL.nil (WX.then_normal (WC.ret (WX.then_ret (?_))))
          refine WX.ret2 (.inl rfl) Tryd.results40 rfl rfl ?_
          by_cases hc : b.length = 128 ∧ n < 128 ∧ (∀ x ∈ r, x = 0) ∧ (openR s).2 = 0
          ·
            have hy := un_yes hn hs hrs hc
            obtain ⟨g1, g2, g3, g4⟩ := hc
            rw [hy.1, hy.2]
            first
              | (exact ⟨_, rfl, ⟨a3, c3, rfl, hq.mono (fun x hx => by omega)⟩, kk⟩)
              | (exfalso; have g5 := hm.2 g3; omega)
              | (exfalso; omega)
          ·
            have hy := un_no hn hs hrs hc
            have ho2 := openR_err s
            rw [hy.1, hy.2]
            first
              | (exact ⟨_, rfl, ⟨none, 0, rfl, Row.nil _ _ _ _⟩, kk⟩)
              | (have h9 : (openR s).2 = 2 := ho2.resolve_left (by assumption)
                 refine ⟨_, rfl, ⟨none, 0, ?_, Row.nil _ _ _ _⟩, kk⟩
                 rw [← h9]
                 rfl)
              | (exfalso; exact hc ⟨by omega, by omega, hm.1 (by omega), by assumption⟩)
        ·
          refine WL.nil (WX.then_normal (WC.cond_false rfl (WC.skip (WX.then_normal (WC.seq (WC.region (WL.move rfl rfl (?_))))))))
          have ho' := ho.rsl.old
          refine WL.call eg_70 rfl rfl (decode_calls' ho' (by have := openR_len s; rw [hs, List.length_drop, List.length_take] at this; rw [← hs] at this; omega)) ?_
          rintro v w3 ⟨⟨a3, c3, rfl, hq⟩, k3⟩
          have zs_k3 := k3.size
          replace hr := hr.pure k3
          replace kk := kk.pure k3
          replace hb1 := hb1.pure k3
          replace hb2 := hb2.pure k3
          replace ho := ho.pure k3
          replace hq := hq.lt
          refine WL.extract rfl rfl rfl (WL.extract rfl rfl rfl (WL.assign rfl rfl (WL.assign rfl rfl (WL.nil (WX.then_normal (WC.ret (?_)))))))
          refine WX.ret2 (.inl rfl) Tryd.results40 rfl rfl ?_
          by_cases hc : b.length = 128 ∧ n < 128 ∧ (∀ x ∈ r, x = 0) ∧ (openR s).2 = 0
          ·
            have hy := un_yes hn hs hrs hc
            obtain ⟨g1, g2, g3, g4⟩ := hc
            rw [hy.1, hy.2]
            first
              | (exact ⟨_, rfl, ⟨a3, c3, rfl, hq.mono (fun x hx => by omega)⟩, kk⟩)
              | (exfalso; have g5 := hm.2 g3; omega)
              | (exfalso; omega)
          ·
            have hy := un_no hn hs hrs hc
            have ho2 := openR_err s
            rw [hy.1, hy.2]
            first
              | (exact ⟨_, rfl, ⟨none, 0, rfl, Row.nil _ _ _ _⟩, kk⟩)
              | (have h9 : (openR s).2 = 2 := ho2.resolve_left (by assumption)
                 refine ⟨_, rfl, ⟨none, 0, ?_, Row.nil _ _ _ _⟩, kk⟩
                 rw [← h9]
                 rfl)
              | (exfalso; exact hc ⟨by omega, by omega, hm.1 (by omega), by assumption⟩)
end Go.Proofs.YtjeldcjchipdgaaDoor
namespace Go.Proofs.YtjeldcjchipdgaaDoor
open Go.RowKit Go.HL
set_option maxRecDepth 100000

theorem icheck_good {l : List Item} (hl : l.length ≤ 2000) (hg : ∀ i ∈ l, Good i) : checkE l = 0 := by
  unfold checkE
  have h1 : ¬ (2000 < l.length ∨ l.any longI = true) := by
    rintro (h | h)
    · omega
    · obtain ⟨i, hi, h2⟩ := List.any_eq_true.1 h
      rw [(hg i hi).1] at h2
      cases h2
  rw [if_neg h1, if_pos (List.all_eq_true.2 fun i hi => (hg i hi).2.1)]
theorem good_check {l : List Item} (h : checkE l = 0) (hwf : ∀ i ∈ l, RIt i) : ∀ i ∈ l, Good i := fun i hi => ⟨((checkE_ok h).2 i hi).1, ((checkE_ok h).2 i hi).2, hwf i hi⟩
theorem dec_encAll {l : List Item} (h : checkE l = 0) (hwf : ∀ i ∈ l, RIt i) : dec 0 (encAll l) = some l := enc_dec l 0 (by have := (checkE_ok h).1; omega) (good_check h hwf)
theorem decL_enc {l : List Item} (h : checkE l = 0) (hwf : ∀ i ∈ l, RIt i) : decL (encAll l) = l := by simp [decL, dec_encAll h hwf]
theorem decE_enc {l : List Item} (h : checkE l = 0) (hwf : ∀ i ∈ l, RIt i) : decE (encAll l) = 0 := by simp [decE, dec_encAll h hwf]
theorem encAll_inj {l m : List Item} (hl : checkE l = 0) (hm : checkE m = 0) (wl : ∀ i ∈ l, RIt i) (wm : ∀ i ∈ m, RIt i) (h : encAll l = encAll m) : l = m := by
  have h1 := dec_encAll hl wl
  rw [h, dec_encAll hm wm] at h1
  injection h1 with h1
  exact h1.symm
theorem decE_zero {b : List UInt8} (h : decE b = 0) : dec 0 b = some (decL b) := by
  unfold decE at h
  unfold decL
  cases hd : dec 0 b with
  | none => rw [hd] at h; cases h
  | some l => rfl
theorem decE_good {b : List UInt8} (h : decE b = 0) : checkE (decL b) = 0 ∧ encAll (decL b) = b := by
  obtain ⟨h1, h2, h3⟩ := dec_spec b.length b (Nat.le_refl _) 0 (decL b) (by omega) (decE_zero h)
  exact ⟨icheck_good (by omega) h2, h3⟩

end Go.Proofs.YtjeldcjchipdgaaDoor
namespace Go.Proofs.YtjeldcjchipdgaaDoor
open Go.RowKit Go.HL
set_option maxRecDepth 100000

/-! plain: what is in a sector -/
theorem sec_parts {c : List UInt8} (h : c.length ≤ 95) : ((sec c).getD 0 0).toNat = c.length + 32 ∧ ((sec c).take (1 + (c.length + 32))).drop 1 = c ++ sumB c ∧ (sec c).drop (1 + (c.length + 32)) = List.replicate (95 - c.length) 0 := by
  have hl : (c ++ sumB c).length = c.length + 32 := by rw [List.length_append, sumB_len]
  refine ⟨?_, ?_, ?_⟩
  · show (B8 ((c.length : Int) + 32)).toNat = _
    rw [B8]
    have e1 : ((c.length : Int) + 32) % 256 = (c.length : Int) + 32 := Int.emod_eq_of_lt (by omega) (by omega)
    rw [e1, UInt8.toNat_ofNat']
    omega
  · rw [sec, show 1 + (c.length + 32) = (c.length + 32) + 1 from by omega, List.cons_append, List.take_succ_cons, List.drop_succ_cons, List.drop_zero, List.take_append_of_le_length (by omega), ← hl, List.take_length]
  · rw [sec, show 1 + (c.length + 32) = (c.length + 32) + 1 from by omega, List.cons_append, List.drop_succ_cons, ← hl, List.drop_left]
theorem open_sealed (c : List UInt8) : openR (c ++ sumB c) = (c, 0) := by
  have hl : (c ++ sumB c).length = c.length + 32 := by rw [List.length_append, sumB_len]
  rw [openR, hl, show c.length + 32 - 32 = c.length from by omega, List.take_left, List.drop_left, if_pos ⟨by omega, rfl⟩]
theorem open_parts {s : List UInt8} (h : (openR s).2 = 0) : s = (openR s).1 ++ sumB (openR s).1 ∧ (openR s).1.length + 32 = s.length := by
  unfold openR at h ⊢
  split at h
  · rename_i h1
    rw [if_pos h1]
    dsimp only
    rw [h1.2, List.take_append_drop, List.length_take]
    exact ⟨rfl, by omega⟩
  · cases h
theorem un_sec {l : List Item} (h : secE l = 0) (hg : ∀ i ∈ l, RIt i) : unS (secB l) = some l := by
  have h0 : checkE l = 0 := by
    unfold secE at h
    split at h
    · assumption
    · rename_i h1; exact absurd h h1
  have h1 : (encAll l).length ≤ 95 := by
    rw [secE, if_pos h0] at h
    split at h
    · cases h
    · omega
  obtain ⟨c1, c2⟩ := checkE_ok h0
  obtain ⟨p1, p2, p3⟩ := sec_parts h1
  rw [secB, if_pos h, unS, p1, p2, p3, open_sealed, if_pos ⟨sec_len h1, by omega, fun x hx => (List.mem_replicate.1 hx).2, rfl⟩]
  exact enc_dec l 0 (by omega) (fun i hi => ⟨(c2 i hi).1, (c2 i hi).2, hg i hi⟩)
theorem un_parts {b : List UInt8} {l : List Item} (h : unS b = some l) : b.length = 128 ∧ (b.getD 0 0).toNat < 128 ∧ (openR ((b.take (1 + (b.getD 0 0).toNat)).drop 1)).2 = 0 ∧ dec 0 (openR ((b.take (1 + (b.getD 0 0).toNat)).drop 1)).1 = some l ∧ (∀ i ∈ l, Good i) ∧ secE l = 0 ∧ secB l = b := by
  unfold unS at h
  split at h
  · rename_i hc
    obtain ⟨g1, g2, g3, g4⟩ := hc
    obtain ⟨d1, d2, d3⟩ := dec_spec _ _ (Nat.le_refl _) 0 l (by omega) h
    obtain ⟨n, hn⟩ : ∃ n, n = (b.getD 0 0).toNat := ⟨_, rfl⟩
    rw [← hn] at g2 g3 g4 d3 h ⊢
    obtain ⟨s, hs⟩ : ∃ s, s = (b.take (1 + n)).drop 1 := ⟨_, rfl⟩
    rw [← hs] at g4 d3 h ⊢
    obtain ⟨o1, o2⟩ := open_parts g4
    have hsl : s.length = n := by rw [hs, List.length_drop, List.length_take]; omega
    have hE : secE l = 0 := by
      rw [secE, if_pos (icheck_good (by omega) d2), if_neg (by rw [d3]; omega)]
    refine ⟨g1, g2, g4, h, d2, hE, ?_⟩
    rw [secB, if_pos hE, d3, sec, ← o1]
    have e1 : B8 (((openR s).1.length : Int) + 32) = b.getD 0 0 := by
      apply UInt8.toNat_inj.1
      rw [← hn, B8]
      have e2 : (((openR s).1.length : Int) + 32) % 256 = ((openR s).1.length : Int) + 32 := Int.emod_eq_of_lt (by omega) (by omega)
      rw [e2, UInt8.toNat_ofNat']
      omega
    have e3 : List.replicate (95 - (openR s).1.length) 0 = b.drop (1 + n) := by
      refine (List.eq_replicate_iff.2 ⟨?_, g3⟩).symm
      rw [List.length_drop]
      omega
    rw [e1, e3, hs]
    cases b with
    | nil => simp at g1
    | cons x r =>
      simp only [List.getD_cons_zero, Nat.add_comm 1 n, List.take_succ_cons, List.drop_succ_cons, List.drop_zero, List.cons_append, List.take_append_drop]
  · cases h
theorem un_not {b : List UInt8} (h : ∀ l, unS b = some l → False) : unL b = [] ∧ unE b = 2 := by
  cases hu : unS b with
  | none => exact un_none hu
  | some l => exact (h l hu).elim
theorem un_yes' {b : List UInt8} {l : List Item} (h : unS b = some l) : unL b = l ∧ unE b = 0 := by
  rw [unL, unE, h]
  exact ⟨rfl, rfl⟩

/-! the document's -/
theorem docSector_calls {w : World} {ao : Option Addr} {c : Nat} {l : List Item} (hr : RSl (· < w.heap.size) w eit ao c l) (hl : l.length ≤ 9223372036854775807) (hwf : ∀ i ∈ l, RIt i) :
    Calls Tryd.prog 35 [.slice ao l.length c].toArray w (Ret fun v w' => v = .tuple #[.string ⟨(secB l).toArray⟩, vi (secE l)] ∧ Chg Nob w w') := by
  have kk := Chg.refl Nob w
  refine Calls.of_WC Tryd.func35 rfl Tryd.ntmps35 (by simp) ?_
  refine WC.seq (WC.region (WL.assign rfl rfl (WL.assign rfl rfl (WL.nil (WX.then_normal (WC.seq (WC.region (?_))))))))
  refine WL.move rfl rfl (?_)
  refine WL.call eg_62 rfl rfl (docEncode_calls hr hl hwf) ?_
  rintro v w1 ⟨rfl, k1⟩
  obtain ⟨B, eB⟩ : ∃ B, B = (if checkE l = 0 then encAll l else []) := ⟨_, rfl⟩
  rw [← eB]
  obtain ⟨X, eX⟩ : ∃ X : ByteArray, X = ⟨B.toArray⟩ := ⟨_, rfl⟩
  have hXl : X.size = B.length := by rw [eX]; exact List.size_toArray
  rw [← eX]
  have hBl : B.length ≤ 140737488351232 := by
    rw [eB]
    split
    ·
      rename_i h0
      obtain ⟨h1, h2⟩ := checkE_ok h0
      have := encAll_len h2
      omega
    ·
      simp
  have zs_k1 := k1.size
  replace hr := hr.pure k1
  replace kk := kk.pure k1
  refine WL.move rfl rfl (WL.extract rfl rfl rfl (WL.extract rfl rfl rfl (WL.assign rfl rfl (WL.assign rfl rfl (WL.nil (WX.then_normal (WC.seq (?_))))))))
  refine WC.seq (WC.region (WL.move rfl rfl (?_)))
  refine WL.neq? rfl rfl rfl (fun h12 => ?_) (fun h12 => ?_)
  ·
    refine WL.nil (WX.then_normal (WC.cond_true rfl (WC.seq (WC.region (WL.move rfl rfl (WL.assign rfl rfl (WL.assign rfl rfl (?_))))))))
    refine WL.nil (WX.then_normal (WC.ret (WX.then_ret (?_))))
    refine WX.ret2 (.inl rfl) Tryd.results35 rfl rfl ?_
    first
      | (have h1 : secE l = checkE l := by rw [secE, if_neg h12]
         refine ⟨_, rfl, ?_, kk⟩
         rw [secB, h1, if_neg h12]
         rfl)
      | (have hB : B = encAll l := by rw [eB, if_pos h12]
         have hB2 : 95 < (encAll l).length := by rw [← hB]; omega
         have h1 : secE l = 14 := by rw [secE, if_pos h12, if_pos hB2]
         refine ⟨_, rfl, ?_, kk⟩
         rw [secB, h1, if_neg (by decide)]
         done)
      | (have hB : B = encAll l := by rw [eB, if_pos h12]
         have hB2 : ¬ 95 < (encAll l).length := by rw [← hB]; omega
         have h1 : secE l = 0 := by rw [secE, if_pos h12, if_neg hB2]
         refine ⟨_, rfl, ?_, kk⟩
         rw [eV, sx_append, h1, secB, h1, if_pos rfl, ← hB, hYl]
         rfl)
  ·
    refine WL.nil (WX.then_normal (WC.cond_false rfl (WC.skip (WX.then_normal (WC.seq (WC.seq (WC.region (?_))))))))
    refine WL.move rfl rfl (WL.lens Tryd.underlying9 rfl rfl (WL.add64 rfl rfl (by omega) rfl (WL.add64 rfl rfl (by omega) rfl (?_))))
    refine WL.gtr? rfl rfl rfl (fun h18 => ?_) (fun h18 => ?_)
    ·
      refine WL.nil (WX.then_normal (WC.cond_true rfl (WC.seq (WC.region (WL.assign rfl rfl (WL.assign rfl rfl (WL.nil (?_))))))))
      refine WX.then_normal (WC.ret (WX.then_ret (?_)))
      refine WX.ret2 (.inl rfl) Tryd.results35 rfl rfl ?_
      first
        | (have h1 : secE l = checkE l := by rw [secE, if_neg h12]
           refine ⟨_, rfl, ?_, kk⟩
           rw [secB, h1, if_neg h12]
           rfl)
        | (have hB : B = encAll l := by rw [eB, if_pos h12]
           have hB2 : 95 < (encAll l).length := by rw [← hB]; omega
           have h1 : secE l = 14 := by rw [secE, if_pos h12, if_pos hB2]
           refine ⟨_, rfl, ?_, kk⟩
           rw [secB, h1, if_neg (by decide)]
           done)
        | (have hB : B = encAll l := by rw [eB, if_pos h12]
           have hB2 : ¬ 95 < (encAll l).length := by rw [← hB]; omega
           have h1 : secE l = 0 := by rw [secE, if_pos h12, if_neg hB2]
           refine ⟨_, rfl, ?_, kk⟩
           rw [eV, sx_append, h1, secB, h1, if_pos rfl, ← hB, hYl]
           rfl)
    ·
      refine WL.nil (WX.then_normal (WC.cond_false rfl (WC.skip (WX.then_normal (WC.seq (WC.region (WL.move rfl rfl (?_))))))))
      refine WL.move rfl rfl (?_)
      refine WL.call eg_63 rfl rfl (sum64_calls X _ (by omega)) ?_
      rintro v w2 ⟨rfl, k2⟩
      have zs_k2 := k2.size
      replace hr := hr.pure k2
      replace kk := kk.pure k2
      have hsl := sumB_len B
      have hX2 : X ++ (⟨(sumB X.data.toList).toArray⟩ : ByteArray) = ⟨(B ++ sumB B).toArray⟩ := by rw [eX, sx_append]
      refine WL.sadd rfl rfl (by show X.size + (sumB X.data.toList).toArray.size ≤ _; rw [List.size_toArray, sumB_len]; omega) rfl ?_
      rw [hX2]
      obtain ⟨Y, eY⟩ : ∃ Y : ByteArray, Y = ⟨(B ++ sumB B).toArray⟩ := ⟨_, rfl⟩
      have hYl : Y.size = B.length + 32 := by rw [eY]; show (B ++ sumB B).toArray.size = _; rw [List.size_toArray, List.length_append, hsl]
      rw [← eY]
      refine WL.assign rfl rfl (WL.nil (WX.then_normal (WC.seq (?_))))
      refine WC.drawM (Nob) [0, 1, 2, 5, 7, 8, 9, 14] [3, 4, 6, 10, 11, 12, 13] mixed rfl rfl (fun wd_1 kd_1 zd_1 => ?_)
      have zs_kd_1 := kd_1.size
      replace hr := hr.pure kd_1
      replace kk := kk.pure kd_1
      apply DQT.step (E' := [(4, _)])
      case ho => rfl
      case hs => exact ⟨rfl, trivial⟩
      case hk => rfl
      case h1 =>
        intro wq_3 kq_3
        refine WL.move rfl rfl (?_)
        refine WL.nil ?_
        exact WX.one ⟨rfl, by exact Chg.refl _ _⟩
      apply DQT.step (E' := [(23, _)])
      case ho => rfl
      case hs => exact ⟨rfl, trivial⟩
      case hk => rfl
      case h1 =>
        intro wq_4 kq_4
        have zs_kq_4 := kq_4.size
        replace hr := hr.pure kq_4
        replace kk := kk.pure kq_4
        refine WL.lens Tryd.underlying9 rfl rfl (?_)
        refine WL.nil ?_
        exact WX.one ⟨rfl, by exact Chg.refl _ _⟩
      apply DQT.step (E' := [(24, _)])
      case ho => rfl
      case hs => exact ⟨rfl, trivial⟩
      case hk => rfl
      case h1 =>
        intro wq_5 kq_5
        have zs_kq_5 := kq_5.size
        replace hr := hr.pure kq_5
        replace kk := kk.pure kq_5
        refine WL.c_i64_u8 Tryd.underlying3 Tryd.underlying5 rfl rfl (?_)
        refine WL.nil ?_
        exact WX.one ⟨rfl, by exact Chg.refl _ _⟩
      apply DQT.step (E' := [(4, _)])
      case ho => rfl
      case hs => exact ⟨rfl, trivial⟩
      case hk => rfl
      case h1 =>
        intro wq_6 kq_6
        refine WL.move rfl rfl (?_)
        refine WL.nil ?_
        exact WX.one ⟨rfl, by exact Chg.refl _ _⟩
      apply DQT.step (E' := [(4, _)])
      case ho => rfl
      case hs => exact ⟨rfl, trivial⟩
      case hk => rfl
      case h1 =>
        intro wq_7 kq_7
        refine WL.move rfl rfl (?_)
        refine WL.nil ?_
        exact WX.one ⟨rfl, by exact Chg.refl _ _⟩
      apply DQT.step (E' := [(30, _)])
      case ho => rfl
      case hs => exact ⟨rfl, trivial⟩
      case hk => rfl
      case h1 =>
        intro wq_8 kq_8
        have zs_kq_8 := kq_8.size
        replace hr := hr.pure kq_8
        replace kk := kk.pure kq_8
        refine WL.lens Tryd.underlying9 rfl rfl (?_)
        refine WL.nil ?_
        exact WX.one ⟨rfl, by exact Chg.refl _ _⟩
      apply DQT.step (E' := [(31, _)])
      case ho => rfl
      case hs => exact ⟨rfl, trivial⟩
      case hk => rfl
      case h1 =>
        intro wq_9 kq_9
        refine WL.sub64 rfl rfl (by constructor <;> omega) rfl ?_
        rw [show ((127 : Int) - Y.size) = ((95 - B.length : Nat) : Int) from by omega]
        refine WL.nil ?_
        exact WX.one ⟨rfl, by exact Chg.refl _ _⟩
      apply DQT.step (E' := [])
      case ho => rfl
      case hs => exact trivial
      case hk => rfl
      case h1 =>
        intro wq_10 kq_10
        refine WL.assign rfl rfl (?_)
        refine WL.nil ?_
        exact WX.one ⟨rfl, by exact Chg.refl _ _⟩
      refine DQT.done (fun hd_2 => ?_)
      refine ⟨?_, trivial, trivial, ?_, trivial, trivial, trivial, trivial⟩
      refine DT.step [(25, _)] rfl ⟨rfl, trivial⟩ rfl (fun wq_11 kq_11 => ?_)
      have zs_kq_11 := kq_11.size
      replace hr := hr.pure kq_11
      replace kk := kk.pure kq_11
      replace hd_2 := hd_2.pure kq_11
      refine WL.build (e := eb) [B8 (Y.size : Int)] Tryd.underlying26 Tryd.sizeOf5 Tryd.zeroValue5 rfl rfl rfl (by simp [Value.cells] <;> rfl) (by decide) rfl ?_
      intro a_hn w_hn hn l_hn z_hn k_hn
      have zs_k_hn := k_hn.size
      replace hr := hr.pure k_hn
      replace kk := kk.pure k_hn
      replace hd_2 := hd_2.pure k_hn
      refine WL.nil (WX.one ⟨hd_2, ?_⟩)
      refine ⟨?_, trivial, ?_, trivial, trivial, trivial, trivial⟩
      refine DT.step [(26, _)] rfl ⟨rfl, trivial⟩ rfl (fun wq_12 kq_12 => ?_)
      have zs_kq_12 := kq_12.size
      replace hr := hr.pure kq_12
      replace kk := kk.pure kq_12
      replace hd_2 := hd_2.pure kq_12
      replace hn := hn.pure kq_12
      refine WL.toStr Tryd.underlying26 Tryd.underlying5 Tryd.underlying9 hn.rsl rfl rfl ?_
      refine WL.nil (WX.one ⟨hd_2, ?_⟩)
      refine ⟨?_, ?_, trivial, trivial, trivial, trivial⟩
      refine DT.step [(27, _), (28, _)] rfl ⟨rfl, rfl, trivial⟩ rfl (fun wq_13 kq_13 => ?_)
      have zs_kq_13 := kq_13.size
      replace hr := hr.pure kq_13
      replace kk := kk.pure kq_13
      replace hd_2 := hd_2.pure kq_13
      replace hn := hn.pure kq_13
      have hV2 : (⟨[B8 (Y.size : Int)].toArray⟩ : ByteArray) ++ Y = ⟨(B8 (Y.size : Int) :: (B ++ sumB B)).toArray⟩ := by rw [eY, sx_append]; rfl
      refine WL.sadd rfl rfl (by show [B8 (Y.size : Int)].toArray.size + Y.size ≤ _; rw [hYl]; simp; omega) rfl ?_
      rw [hV2]
      obtain ⟨V, eV⟩ : ∃ V : ByteArray, V = ⟨(B8 (Y.size : Int) :: (B ++ sumB B)).toArray⟩ := ⟨_, rfl⟩
      have hVl : V.size = B.length + 33 := by rw [eV]; show (B8 (Y.size : Int) :: (B ++ sumB B)).toArray.size = _; rw [List.size_toArray, List.length_cons, List.length_append, hsl]
      rw [← eV]
      refine WL.nil (WX.one ⟨hd_2, ?_⟩)
      refine ⟨?_, trivial, trivial, trivial, trivial⟩
      refine DT.step [(32, _)] rfl ⟨rfl, trivial⟩ rfl (fun wq_14 kq_14 => ?_)
      have zs_kq_14 := kq_14.size
      replace hr := hr.pure kq_14
      replace kk := kk.pure kq_14
      replace hd_2 := hd_2.pure kq_14
      replace hn := hn.pure kq_14
      refine WL.make (e := eb) (0 : UInt8) (95 - B.length) (95 - B.length) Tryd.underlying26 info_5 rfl rfl rfl ⟨rfl, rfl, Nat.le_refl _⟩ (by constructor <;> omega) rfl ?_
      intro g7 w7 hm7 k7 z7 eg7
      have zs_k7 := k7.size
      replace hr := hr.pure k7
      replace kk := kk.pure k7
      replace hd_2 := hd_2.pure k7
      replace hn := hn.pure k7
      refine WL.nil (WX.one ⟨hd_2, ?_⟩)
      refine ⟨?_, trivial, trivial, trivial⟩
      refine DT.step [(33, _)] rfl ⟨rfl, trivial⟩ rfl (fun wq_15 kq_15 => ?_)
      have zs_kq_15 := kq_15.size
      replace hr := hr.pure kq_15
      replace kk := kk.pure kq_15
      replace hd_2 := hd_2.pure kq_15
      replace hn := hn.pure kq_15
      replace hm7 := hm7.pure kq_15
      have hm8 := hm7.rsl
      refine WL.toStr Tryd.underlying26 Tryd.underlying5 Tryd.underlying9 hm8 rfl rfl ?_
      refine WL.nil (WX.one ⟨hd_2, ?_⟩)
      refine ⟨?_, trivial, trivial⟩
      refine DT.step [(29, _), (34, _)] rfl ⟨rfl, rfl, trivial⟩ rfl (fun wq_16 kq_16 => ?_)
      have zs_kq_16 := kq_16.size
      replace hr := hr.pure kq_16
      replace kk := kk.pure kq_16
      replace hd_2 := hd_2.pure kq_16
      replace hn := hn.pure kq_16
      replace hm7 := hm7.pure kq_16
      refine WL.sadd rfl rfl (by show V.size + (List.replicate (95 - B.length) (0 : UInt8)).toArray.size ≤ _; rw [List.size_toArray, List.length_replicate]; omega) rfl ?_
      refine WL.nil (WX.one ⟨hd_2, ?_⟩)
      refine ⟨?_, trivial⟩
      refine DT.step [(35, _)] rfl ⟨rfl, trivial⟩ rfl (fun wq_17 kq_17 => ?_)
      have zs_kq_17 := kq_17.size
      replace hr := hr.pure kq_17
      replace kk := kk.pure kq_17
      replace hd_2 := hd_2.pure kq_17
      replace hn := hn.pure kq_17
      replace hm7 := hm7.pure kq_17
      refine WL.assign rfl rfl (?_)
      refine WL.nil (WX.one ⟨hd_2, ?_⟩)
      refine DT.done (fun we_18 ke_18 => ?_) _
      have zs_ke_18 := ke_18.size
      replace hr := hr.pure ke_18
      replace kk := kk.pure ke_18
      replace hd_2 := hd_2.pure ke_18
      replace hn := hn.pure ke_18
      replace hm7 := hm7.pure ke_18
      rotate_left
      refine DT.step [(32, _)] rfl ⟨rfl, trivial⟩ rfl (fun wq_13 kq_13 => ?_)
      have zs_kq_13 := kq_13.size
      replace hr := hr.pure kq_13
      replace kk := kk.pure kq_13
      replace hd_2 := hd_2.pure kq_13
      replace hn := hn.pure kq_13
      refine WL.make (e := eb) (0 : UInt8) (95 - B.length) (95 - B.length) Tryd.underlying26 info_5 rfl rfl rfl ⟨rfl, rfl, Nat.le_refl _⟩ (by constructor <;> omega) rfl ?_
      intro g7 w7 hm7 k7 z7 eg7
      have zs_k7 := k7.size
      replace hr := hr.pure k7
      replace kk := kk.pure k7
      replace hd_2 := hd_2.pure k7
      replace hn := hn.pure k7
      refine WL.nil (WX.one ⟨hd_2, ?_⟩)
      refine ⟨?_, ?_, trivial, trivial, trivial⟩
      refine DT.step [(27, _), (28, _)] rfl ⟨rfl, rfl, trivial⟩ rfl (fun wq_14 kq_14 => ?_)
      have zs_kq_14 := kq_14.size
      replace hr := hr.pure kq_14
      replace kk := kk.pure kq_14
      replace hd_2 := hd_2.pure kq_14
      replace hn := hn.pure kq_14
      replace hm7 := hm7.pure kq_14
      have hV2 : (⟨[B8 (Y.size : Int)].toArray⟩ : ByteArray) ++ Y = ⟨(B8 (Y.size : Int) :: (B ++ sumB B)).toArray⟩ := by rw [eY, sx_append]; rfl
      refine WL.sadd rfl rfl (by show [B8 (Y.size : Int)].toArray.size + Y.size ≤ _; rw [hYl]; simp; omega) rfl ?_
      rw [hV2]
      obtain ⟨V, eV⟩ : ∃ V : ByteArray, V = ⟨(B8 (Y.size : Int) :: (B ++ sumB B)).toArray⟩ := ⟨_, rfl⟩
      have hVl : V.size = B.length + 33 := by rw [eV]; show (B8 (Y.size : Int) :: (B ++ sumB B)).toArray.size = _; rw [List.size_toArray, List.length_cons, List.length_append, hsl]
      rw [← eV]
      refine WL.nil (WX.one ⟨hd_2, ?_⟩)
      refine ⟨?_, trivial, trivial, trivial⟩
      refine DT.step [(33, _)] rfl ⟨rfl, trivial⟩ rfl (fun wq_15 kq_15 => ?_)
      have zs_kq_15 := kq_15.size
      replace hr := hr.pure kq_15
      replace kk := kk.pure kq_15
      replace hd_2 := hd_2.pure kq_15
      replace hn := hn.pure kq_15
      replace hm7 := hm7.pure kq_15
      have hm8 := hm7.rsl
      refine WL.toStr Tryd.underlying26 Tryd.underlying5 Tryd.underlying9 hm8 rfl rfl ?_
      refine WL.nil (WX.one ⟨hd_2, ?_⟩)
      refine ⟨?_, trivial, trivial⟩
      refine DT.step [(29, _), (34, _)] rfl ⟨rfl, rfl, trivial⟩ rfl (fun wq_16 kq_16 => ?_)
      have zs_kq_16 := kq_16.size
      replace hr := hr.pure kq_16
      replace kk := kk.pure kq_16
      replace hd_2 := hd_2.pure kq_16
      replace hn := hn.pure kq_16
      replace hm7 := hm7.pure kq_16
      refine WL.sadd rfl rfl (by show V.size + (List.replicate (95 - B.length) (0 : UInt8)).toArray.size ≤ _; rw [List.size_toArray, List.length_replicate]; omega) rfl ?_
      refine WL.nil (WX.one ⟨hd_2, ?_⟩)
      refine ⟨?_, trivial⟩
      refine DT.step [(35, _)] rfl ⟨rfl, trivial⟩ rfl (fun wq_17 kq_17 => ?_)
      have zs_kq_17 := kq_17.size
      replace hr := hr.pure kq_17
      replace kk := kk.pure kq_17
      replace hd_2 := hd_2.pure kq_17
      replace hn := hn.pure kq_17
      replace hm7 := hm7.pure kq_17
      refine WL.assign rfl rfl (?_)
      refine WL.nil (WX.one ⟨hd_2, ?_⟩)
      refine DT.done (fun we_18 ke_18 => ?_) _
      have zs_ke_18 := ke_18.size
      replace hr := hr.pure ke_18
      replace kk := kk.pure ke_18
      replace hd_2 := hd_2.pure ke_18
      replace hn := hn.pure ke_18
      replace hm7 := hm7.pure ke_18
      rotate_left
      refine DT.step [(33, _)] rfl ⟨rfl, trivial⟩ rfl (fun wq_14 kq_14 => ?_)
      have zs_kq_14 := kq_14.size
      replace hr := hr.pure kq_14
      replace kk := kk.pure kq_14
      replace hd_2 := hd_2.pure kq_14
      replace hn := hn.pure kq_14
      replace hm7 := hm7.pure kq_14
      have hm8 := hm7.rsl
      refine WL.toStr Tryd.underlying26 Tryd.underlying5 Tryd.underlying9 hm8 rfl rfl ?_
      refine WL.nil (WX.one ⟨hd_2, ?_⟩)
      refine ⟨?_, trivial, trivial, trivial⟩
      refine DT.step [(27, _), (28, _)] rfl ⟨rfl, rfl, trivial⟩ rfl (fun wq_15 kq_15 => ?_)
      have zs_kq_15 := kq_15.size
      replace hr := hr.pure kq_15
      replace kk := kk.pure kq_15
      replace hd_2 := hd_2.pure kq_15
      replace hn := hn.pure kq_15
      replace hm7 := hm7.pure kq_15
      have hV2 : (⟨[B8 (Y.size : Int)].toArray⟩ : ByteArray) ++ Y = ⟨(B8 (Y.size : Int) :: (B ++ sumB B)).toArray⟩ := by rw [eY, sx_append]; rfl
      refine WL.sadd rfl rfl (by show [B8 (Y.size : Int)].toArray.size + Y.size ≤ _; rw [hYl]; simp; omega) rfl ?_
      rw [hV2]
      obtain ⟨V, eV⟩ : ∃ V : ByteArray, V = ⟨(B8 (Y.size : Int) :: (B ++ sumB B)).toArray⟩ := ⟨_, rfl⟩
      have hVl : V.size = B.length + 33 := by rw [eV]; show (B8 (Y.size : Int) :: (B ++ sumB B)).toArray.size = _; rw [List.size_toArray, List.length_cons, List.length_append, hsl]
      rw [← eV]
      refine WL.nil (WX.one ⟨hd_2, ?_⟩)
      refine ⟨?_, trivial, trivial⟩
      refine DT.step [(29, _), (34, _)] rfl ⟨rfl, rfl, trivial⟩ rfl (fun wq_16 kq_16 => ?_)
      have zs_kq_16 := kq_16.size
      replace hr := hr.pure kq_16
      replace kk := kk.pure kq_16
      replace hd_2 := hd_2.pure kq_16
      replace hn := hn.pure kq_16
      replace hm7 := hm7.pure kq_16
      refine WL.sadd rfl rfl (by show V.size + (List.replicate (95 - B.length) (0 : UInt8)).toArray.size ≤ _; rw [List.size_toArray, List.length_replicate]; omega) rfl ?_
      refine WL.nil (WX.one ⟨hd_2, ?_⟩)
      refine ⟨?_, trivial⟩
      refine DT.step [(35, _)] rfl ⟨rfl, trivial⟩ rfl (fun wq_17 kq_17 => ?_)
      have zs_kq_17 := kq_17.size
      replace hr := hr.pure kq_17
      replace kk := kk.pure kq_17
      replace hd_2 := hd_2.pure kq_17
      replace hn := hn.pure kq_17
      replace hm7 := hm7.pure kq_17
      refine WL.assign rfl rfl (?_)
      refine WL.nil (WX.one ⟨hd_2, ?_⟩)
      refine DT.done (fun we_18 ke_18 => ?_) _
      have zs_ke_18 := ke_18.size
      replace hr := hr.pure ke_18
      replace kk := kk.pure ke_18
      replace hd_2 := hd_2.pure ke_18
      replace hn := hn.pure ke_18
      replace hm7 := hm7.pure ke_18
      rotate_left
      refine DT.step [(32, _)] rfl ⟨rfl, trivial⟩ rfl (fun wq_12 kq_12 => ?_)
      have zs_kq_12 := kq_12.size
      replace hr := hr.pure kq_12
      replace kk := kk.pure kq_12
      replace hd_2 := hd_2.pure kq_12
      replace hn := hn.pure kq_12
      refine WL.make (e := eb) (0 : UInt8) (95 - B.length) (95 - B.length) Tryd.underlying26 info_5 rfl rfl rfl ⟨rfl, rfl, Nat.le_refl _⟩ (by constructor <;> omega) rfl ?_
      intro g7 w7 hm7 k7 z7 eg7
      have zs_k7 := k7.size
      replace hr := hr.pure k7
      replace kk := kk.pure k7
      replace hd_2 := hd_2.pure k7
      replace hn := hn.pure k7
      refine WL.nil (WX.one ⟨hd_2, ?_⟩)
      refine ⟨?_, trivial, ?_, trivial, trivial, trivial⟩
      refine DT.step [(26, _)] rfl ⟨rfl, trivial⟩ rfl (fun wq_13 kq_13 => ?_)
      have zs_kq_13 := kq_13.size
      replace hr := hr.pure kq_13
      replace kk := kk.pure kq_13
      replace hd_2 := hd_2.pure kq_13
      replace hn := hn.pure kq_13
      replace hm7 := hm7.pure kq_13
      refine WL.toStr Tryd.underlying26 Tryd.underlying5 Tryd.underlying9 hn.rsl rfl rfl ?_
      refine WL.nil (WX.one ⟨hd_2, ?_⟩)
      refine ⟨?_, ?_, trivial, trivial, trivial⟩
      refine DT.step [(27, _), (28, _)] rfl ⟨rfl, rfl, trivial⟩ rfl (fun wq_14 kq_14 => ?_)
      have zs_kq_14 := kq_14.size
      replace hr := hr.pure kq_14
      replace kk := kk.pure kq_14
      replace hd_2 := hd_2.pure kq_14
      replace hn := hn.pure kq_14
      replace hm7 := hm7.pure kq_14
      have hV2 : (⟨[B8 (Y.size : Int)].toArray⟩ : ByteArray) ++ Y = ⟨(B8 (Y.size : Int) :: (B ++ sumB B)).toArray⟩ := by rw [eY, sx_append]; rfl
      refine WL.sadd rfl rfl (by show [B8 (Y.size : Int)].toArray.size + Y.size ≤ _; rw [hYl]; simp; omega) rfl ?_
      rw [hV2]
      obtain ⟨V, eV⟩ : ∃ V : ByteArray, V = ⟨(B8 (Y.size : Int) :: (B ++ sumB B)).toArray⟩ := ⟨_, rfl⟩
      have hVl : V.size = B.length + 33 := by rw [eV]; show (B8 (Y.size : Int) :: (B ++ sumB B)).toArray.size = _; rw [List.size_toArray, List.length_cons, List.length_append, hsl]
      rw [← eV]
      refine WL.nil (WX.one ⟨hd_2, ?_⟩)
      refine ⟨?_, trivial, trivial, trivial⟩
      refine DT.step [(33, _)] rfl ⟨rfl, trivial⟩ rfl (fun wq_15 kq_15 => ?_)
      have zs_kq_15 := kq_15.size
      replace hr := hr.pure kq_15
      replace kk := kk.pure kq_15
      replace hd_2 := hd_2.pure kq_15
      replace hn := hn.pure kq_15
      replace hm7 := hm7.pure kq_15
      have hm8 := hm7.rsl
      refine WL.toStr Tryd.underlying26 Tryd.underlying5 Tryd.underlying9 hm8 rfl rfl ?_
      refine WL.nil (WX.one ⟨hd_2, ?_⟩)
      refine ⟨?_, trivial, trivial⟩
      refine DT.step [(29, _), (34, _)] rfl ⟨rfl, rfl, trivial⟩ rfl (fun wq_16 kq_16 => ?_)
      have zs_kq_16 := kq_16.size
      replace hr := hr.pure kq_16
      replace kk := kk.pure kq_16
      replace hd_2 := hd_2.pure kq_16
      replace hn := hn.pure kq_16
      replace hm7 := hm7.pure kq_16
      refine WL.sadd rfl rfl (by show V.size + (List.replicate (95 - B.length) (0 : UInt8)).toArray.size ≤ _; rw [List.size_toArray, List.length_replicate]; omega) rfl ?_
      refine WL.nil (WX.one ⟨hd_2, ?_⟩)
      refine ⟨?_, trivial⟩
      refine DT.step [(35, _)] rfl ⟨rfl, trivial⟩ rfl (fun wq_17 kq_17 => ?_)
      have zs_kq_17 := kq_17.size
      replace hr := hr.pure kq_17
      replace kk := kk.pure kq_17
      replace hd_2 := hd_2.pure kq_17
      replace hn := hn.pure kq_17
      replace hm7 := hm7.pure kq_17
      refine WL.assign rfl rfl (?_)
      refine WL.nil (WX.one ⟨hd_2, ?_⟩)
      refine DT.done (fun we_18 ke_18 => ?_) _
      have zs_ke_18 := ke_18.size
      replace hr := hr.pure ke_18
      replace kk := kk.pure ke_18
      replace hd_2 := hd_2.pure ke_18
      replace hn := hn.pure ke_18
      replace hm7 := hm7.pure ke_18
      rotate_left
      refine DT.step [(33, _)] rfl ⟨rfl, trivial⟩ rfl (fun wq_14 kq_14 => ?_)
      have zs_kq_14 := kq_14.size
      replace hr := hr.pure kq_14
      replace kk := kk.pure kq_14
      replace hd_2 := hd_2.pure kq_14
      replace hn := hn.pure kq_14
      replace hm7 := hm7.pure kq_14
      have hm8 := hm7.rsl
      refine WL.toStr Tryd.underlying26 Tryd.underlying5 Tryd.underlying9 hm8 rfl rfl ?_
      refine WL.nil (WX.one ⟨hd_2, ?_⟩)
      refine ⟨?_, trivial, trivial, trivial⟩
      refine DT.step [(27, _), (28, _)] rfl ⟨rfl, rfl, trivial⟩ rfl (fun wq_15 kq_15 => ?_)
      have zs_kq_15 := kq_15.size
      replace hr := hr.pure kq_15
      replace kk := kk.pure kq_15
      replace hd_2 := hd_2.pure kq_15
      replace hn := hn.pure kq_15
      replace hm7 := hm7.pure kq_15
      have hV2 : (⟨[B8 (Y.size : Int)].toArray⟩ : ByteArray) ++ Y = ⟨(B8 (Y.size : Int) :: (B ++ sumB B)).toArray⟩ := by rw [eY, sx_append]; rfl
      refine WL.sadd rfl rfl (by show [B8 (Y.size : Int)].toArray.size + Y.size ≤ _; rw [hYl]; simp; omega) rfl ?_
      rw [hV2]
      obtain ⟨V, eV⟩ : ∃ V : ByteArray, V = ⟨(B8 (Y.size : Int) :: (B ++ sumB B)).toArray⟩ := ⟨_, rfl⟩
      have hVl : V.size = B.length + 33 := by rw [eV]; show (B8 (Y.size : Int) :: (B ++ sumB B)).toArray.size = _; rw [List.size_toArray, List.length_cons, List.length_append, hsl]
      rw [← eV]
      refine WL.nil (WX.one ⟨hd_2, ?_⟩)
      refine ⟨?_, trivial, trivial⟩
      refine DT.step [(29, _), (34, _)] rfl ⟨rfl, rfl, trivial⟩ rfl (fun wq_16 kq_16 => ?_)
      have zs_kq_16 := kq_16.size
      replace hr := hr.pure kq_16
      replace kk := kk.pure kq_16
      replace hd_2 := hd_2.pure kq_16
      replace hn := hn.pure kq_16
      replace hm7 := hm7.pure kq_16
      refine WL.sadd rfl rfl (by show V.size + (List.replicate (95 - B.length) (0 : UInt8)).toArray.size ≤ _; rw [List.size_toArray, List.length_replicate]; omega) rfl ?_
      refine WL.nil (WX.one ⟨hd_2, ?_⟩)
      refine ⟨?_, trivial⟩
      refine DT.step [(35, _)] rfl ⟨rfl, trivial⟩ rfl (fun wq_17 kq_17 => ?_)
      have zs_kq_17 := kq_17.size
      replace hr := hr.pure kq_17
      replace kk := kk.pure kq_17
      replace hd_2 := hd_2.pure kq_17
      replace hn := hn.pure kq_17
      replace hm7 := hm7.pure kq_17
      refine WL.assign rfl rfl (?_)
      refine WL.nil (WX.one ⟨hd_2, ?_⟩)
      refine DT.done (fun we_18 ke_18 => ?_) _
      have zs_ke_18 := ke_18.size
      replace hr := hr.pure ke_18
      replace kk := kk.pure ke_18
      replace hd_2 := hd_2.pure ke_18
      replace hn := hn.pure ke_18
      replace hm7 := hm7.pure ke_18
      rotate_left
      refine DT.step [(33, _)] rfl ⟨rfl, trivial⟩ rfl (fun wq_13 kq_13 => ?_)
      have zs_kq_13 := kq_13.size
      replace hr := hr.pure kq_13
      replace kk := kk.pure kq_13
      replace hd_2 := hd_2.pure kq_13
      replace hn := hn.pure kq_13
      replace hm7 := hm7.pure kq_13
      have hm8 := hm7.rsl
      refine WL.toStr Tryd.underlying26 Tryd.underlying5 Tryd.underlying9 hm8 rfl rfl ?_
      refine WL.nil (WX.one ⟨hd_2, ?_⟩)
      refine ⟨?_, trivial, trivial, trivial, trivial⟩
      refine DT.step [(26, _)] rfl ⟨rfl, trivial⟩ rfl (fun wq_14 kq_14 => ?_)
      have zs_kq_14 := kq_14.size
      replace hr := hr.pure kq_14
      replace kk := kk.pure kq_14
      replace hd_2 := hd_2.pure kq_14
      replace hn := hn.pure kq_14
      replace hm7 := hm7.pure kq_14
      refine WL.toStr Tryd.underlying26 Tryd.underlying5 Tryd.underlying9 hn.rsl rfl rfl ?_
      refine WL.nil (WX.one ⟨hd_2, ?_⟩)
      refine ⟨?_, trivial, trivial, trivial⟩
      refine DT.step [(27, _), (28, _)] rfl ⟨rfl, rfl, trivial⟩ rfl (fun wq_15 kq_15 => ?_)
      have zs_kq_15 := kq_15.size
      replace hr := hr.pure kq_15
      replace kk := kk.pure kq_15
      replace hd_2 := hd_2.pure kq_15
      replace hn := hn.pure kq_15
      replace hm7 := hm7.pure kq_15
      have hV2 : (⟨[B8 (Y.size : Int)].toArray⟩ : ByteArray) ++ Y = ⟨(B8 (Y.size : Int) :: (B ++ sumB B)).toArray⟩ := by rw [eY, sx_append]; rfl
      refine WL.sadd rfl rfl (by show [B8 (Y.size : Int)].toArray.size + Y.size ≤ _; rw [hYl]; simp; omega) rfl ?_
      rw [hV2]
      obtain ⟨V, eV⟩ : ∃ V : ByteArray, V = ⟨(B8 (Y.size : Int) :: (B ++ sumB B)).toArray⟩ := ⟨_, rfl⟩
      have hVl : V.size = B.length + 33 := by rw [eV]; show (B8 (Y.size : Int) :: (B ++ sumB B)).toArray.size = _; rw [List.size_toArray, List.length_cons, List.length_append, hsl]
      rw [← eV]
      refine WL.nil (WX.one ⟨hd_2, ?_⟩)
      refine ⟨?_, trivial, trivial⟩
      refine DT.step [(29, _), (34, _)] rfl ⟨rfl, rfl, trivial⟩ rfl (fun wq_16 kq_16 => ?_)
      have zs_kq_16 := kq_16.size
      replace hr := hr.pure kq_16
      replace kk := kk.pure kq_16
      replace hd_2 := hd_2.pure kq_16
      replace hn := hn.pure kq_16
      replace hm7 := hm7.pure kq_16
      refine WL.sadd rfl rfl (by show V.size + (List.replicate (95 - B.length) (0 : UInt8)).toArray.size ≤ _; rw [List.size_toArray, List.length_replicate]; omega) rfl ?_
      refine WL.nil (WX.one ⟨hd_2, ?_⟩)
      refine ⟨?_, trivial⟩
      refine DT.step [(35, _)] rfl ⟨rfl, trivial⟩ rfl (fun wq_17 kq_17 => ?_)
      have zs_kq_17 := kq_17.size
      replace hr := hr.pure kq_17
      replace kk := kk.pure kq_17
      replace hd_2 := hd_2.pure kq_17
      replace hn := hn.pure kq_17
      replace hm7 := hm7.pure kq_17
      refine WL.assign rfl rfl (?_)
      refine WL.nil (WX.one ⟨hd_2, ?_⟩)
      refine DT.done (fun we_18 ke_18 => ?_) _
      have zs_ke_18 := ke_18.size
      replace hr := hr.pure ke_18
      replace kk := kk.pure ke_18
      replace hd_2 := hd_2.pure ke_18
      replace hn := hn.pure ke_18
      replace hm7 := hm7.pure ke_18
      rotate_left
      refine DT.step [(32, _)] rfl ⟨rfl, trivial⟩ rfl (fun wq_11 kq_11 => ?_)
      have zs_kq_11 := kq_11.size
      replace hr := hr.pure kq_11
      replace kk := kk.pure kq_11
      replace hd_2 := hd_2.pure kq_11
      refine WL.make (e := eb) (0 : UInt8) (95 - B.length) (95 - B.length) Tryd.underlying26 info_5 rfl rfl rfl ⟨rfl, rfl, Nat.le_refl _⟩ (by constructor <;> omega) rfl ?_
      intro g7 w7 hm7 k7 z7 eg7
      have zs_k7 := k7.size
      replace hr := hr.pure k7
      replace kk := kk.pure k7
      replace hd_2 := hd_2.pure k7
      refine WL.nil (WX.one ⟨hd_2, ?_⟩)
      refine ⟨?_, trivial, trivial, ?_, trivial, trivial, trivial⟩
      refine DT.step [(25, _)] rfl ⟨rfl, trivial⟩ rfl (fun wq_12 kq_12 => ?_)
      have zs_kq_12 := kq_12.size
      replace hr := hr.pure kq_12
      replace kk := kk.pure kq_12
      replace hd_2 := hd_2.pure kq_12
      replace hm7 := hm7.pure kq_12
      refine WL.build (e := eb) [B8 (Y.size : Int)] Tryd.underlying26 Tryd.sizeOf5 Tryd.zeroValue5 rfl rfl rfl (by simp [Value.cells] <;> rfl) (by decide) rfl ?_
      intro a_hn w_hn hn l_hn z_hn k_hn
      have zs_k_hn := k_hn.size
      replace hr := hr.pure k_hn
      replace kk := kk.pure k_hn
      replace hd_2 := hd_2.pure k_hn
      replace hm7 := hm7.pure k_hn
      refine WL.nil (WX.one ⟨hd_2, ?_⟩)
      refine ⟨?_, trivial, ?_, trivial, trivial, trivial⟩
      refine DT.step [(26, _)] rfl ⟨rfl, trivial⟩ rfl (fun wq_13 kq_13 => ?_)
      have zs_kq_13 := kq_13.size
      replace hr := hr.pure kq_13
      replace kk := kk.pure kq_13
      replace hd_2 := hd_2.pure kq_13
      replace hm7 := hm7.pure kq_13
      replace hn := hn.pure kq_13
      refine WL.toStr Tryd.underlying26 Tryd.underlying5 Tryd.underlying9 hn.rsl rfl rfl ?_
      refine WL.nil (WX.one ⟨hd_2, ?_⟩)
      refine ⟨?_, ?_, trivial, trivial, trivial⟩
      refine DT.step [(27, _), (28, _)] rfl ⟨rfl, rfl, trivial⟩ rfl (fun wq_14 kq_14 => ?_)
      have zs_kq_14 := kq_14.size
      replace hr := hr.pure kq_14
      replace kk := kk.pure kq_14
      replace hd_2 := hd_2.pure kq_14
      replace hm7 := hm7.pure kq_14
      replace hn := hn.pure kq_14
      have hV2 : (⟨[B8 (Y.size : Int)].toArray⟩ : ByteArray) ++ Y = ⟨(B8 (Y.size : Int) :: (B ++ sumB B)).toArray⟩ := by rw [eY, sx_append]; rfl
      refine WL.sadd rfl rfl (by show [B8 (Y.size : Int)].toArray.size + Y.size ≤ _; rw [hYl]; simp; omega) rfl ?_
      rw [hV2]
      obtain ⟨V, eV⟩ : ∃ V : ByteArray, V = ⟨(B8 (Y.size : Int) :: (B ++ sumB B)).toArray⟩ := ⟨_, rfl⟩
      have hVl : V.size = B.length + 33 := by rw [eV]; show (B8 (Y.size : Int) :: (B ++ sumB B)).toArray.size = _; rw [List.size_toArray, List.length_cons, List.length_append, hsl]
      rw [← eV]
      refine WL.nil (WX.one ⟨hd_2, ?_⟩)
      refine ⟨?_, trivial, trivial, trivial⟩
      refine DT.step [(33, _)] rfl ⟨rfl, trivial⟩ rfl (fun wq_15 kq_15 => ?_)
      have zs_kq_15 := kq_15.size
      replace hr := hr.pure kq_15
      replace kk := kk.pure kq_15
      replace hd_2 := hd_2.pure kq_15
      replace hm7 := hm7.pure kq_15
      replace hn := hn.pure kq_15
      have hm8 := hm7.rsl
      refine WL.toStr Tryd.underlying26 Tryd.underlying5 Tryd.underlying9 hm8 rfl rfl ?_
      refine WL.nil (WX.one ⟨hd_2, ?_⟩)
      refine ⟨?_, trivial, trivial⟩
      refine DT.step [(29, _), (34, _)] rfl ⟨rfl, rfl, trivial⟩ rfl (fun wq_16 kq_16 => ?_)
      have zs_kq_16 := kq_16.size
      replace hr := hr.pure kq_16
      replace kk := kk.pure kq_16
      replace hd_2 := hd_2.pure kq_16
      replace hm7 := hm7.pure kq_16
      replace hn := hn.pure kq_16
      refine WL.sadd rfl rfl (by show V.size + (List.replicate (95 - B.length) (0 : UInt8)).toArray.size ≤ _; rw [List.size_toArray, List.length_replicate]; omega) rfl ?_
      refine WL.nil (WX.one ⟨hd_2, ?_⟩)
      refine ⟨?_, trivial⟩
      refine DT.step [(35, _)] rfl ⟨rfl, trivial⟩ rfl (fun wq_17 kq_17 => ?_)
      have zs_kq_17 := kq_17.size
      replace hr := hr.pure kq_17
      replace kk := kk.pure kq_17
      replace hd_2 := hd_2.pure kq_17
      replace hm7 := hm7.pure kq_17
      replace hn := hn.pure kq_17
      refine WL.assign rfl rfl (?_)
      refine WL.nil (WX.one ⟨hd_2, ?_⟩)
      refine DT.done (fun we_18 ke_18 => ?_) _
      have zs_ke_18 := ke_18.size
      replace hr := hr.pure ke_18
      replace kk := kk.pure ke_18
      replace hd_2 := hd_2.pure ke_18
      replace hm7 := hm7.pure ke_18
      replace hn := hn.pure ke_18
      rotate_left
      refine DT.step [(33, _)] rfl ⟨rfl, trivial⟩ rfl (fun wq_14 kq_14 => ?_)
      have zs_kq_14 := kq_14.size
      replace hr := hr.pure kq_14
      replace kk := kk.pure kq_14
      replace hd_2 := hd_2.pure kq_14
      replace hm7 := hm7.pure kq_14
      replace hn := hn.pure kq_14
      have hm8 := hm7.rsl
      refine WL.toStr Tryd.underlying26 Tryd.underlying5 Tryd.underlying9 hm8 rfl rfl ?_
      refine WL.nil (WX.one ⟨hd_2, ?_⟩)
      refine ⟨?_, trivial, trivial, trivial⟩
      refine DT.step [(27, _), (28, _)] rfl ⟨rfl, rfl, trivial⟩ rfl (fun wq_15 kq_15 => ?_)
      have zs_kq_15 := kq_15.size
      replace hr := hr.pure kq_15
      replace kk := kk.pure kq_15
      replace hd_2 := hd_2.pure kq_15
      replace hm7 := hm7.pure kq_15
      replace hn := hn.pure kq_15
      have hV2 : (⟨[B8 (Y.size : Int)].toArray⟩ : ByteArray) ++ Y = ⟨(B8 (Y.size : Int) :: (B ++ sumB B)).toArray⟩ := by rw [eY, sx_append]; rfl
      refine WL.sadd rfl rfl (by show [B8 (Y.size : Int)].toArray.size + Y.size ≤ _; rw [hYl]; simp; omega) rfl ?_
      rw [hV2]
      obtain ⟨V, eV⟩ : ∃ V : ByteArray, V = ⟨(B8 (Y.size : Int) :: (B ++ sumB B)).toArray⟩ := ⟨_, rfl⟩
      have hVl : V.size = B.length + 33 := by rw [eV]; show (B8 (Y.size : Int) :: (B ++ sumB B)).toArray.size = _; rw [List.size_toArray, List.length_cons, List.length_append, hsl]
      rw [← eV]
      refine WL.nil (WX.one ⟨hd_2, ?_⟩)
      refine ⟨?_, trivial, trivial⟩
      refine DT.step [(29, _), (34, _)] rfl ⟨rfl, rfl, trivial⟩ rfl (fun wq_16 kq_16 => ?_)
      have zs_kq_16 := kq_16.size
      replace hr := hr.pure kq_16
      replace kk := kk.pure kq_16
      replace hd_2 := hd_2.pure kq_16
      replace hm7 := hm7.pure kq_16
      replace hn := hn.pure kq_16
      refine WL.sadd rfl rfl (by show V.size + (List.replicate (95 - B.length) (0 : UInt8)).toArray.size ≤ _; rw [List.size_toArray, List.length_replicate]; omega) rfl ?_
      refine WL.nil (WX.one ⟨hd_2, ?_⟩)
      refine ⟨?_, trivial⟩
      refine DT.step [(35, _)] rfl ⟨rfl, trivial⟩ rfl (fun wq_17 kq_17 => ?_)
      have zs_kq_17 := kq_17.size
      replace hr := hr.pure kq_17
      replace kk := kk.pure kq_17
      replace hd_2 := hd_2.pure kq_17
      replace hm7 := hm7.pure kq_17
      replace hn := hn.pure kq_17
      refine WL.assign rfl rfl (?_)
      refine WL.nil (WX.one ⟨hd_2, ?_⟩)
      refine DT.done (fun we_18 ke_18 => ?_) _
      have zs_ke_18 := ke_18.size
      replace hr := hr.pure ke_18
      replace kk := kk.pure ke_18
      replace hd_2 := hd_2.pure ke_18
      replace hm7 := hm7.pure ke_18
      replace hn := hn.pure ke_18
      rotate_left
      refine DT.step [(33, _)] rfl ⟨rfl, trivial⟩ rfl (fun wq_13 kq_13 => ?_)
      have zs_kq_13 := kq_13.size
      replace hr := hr.pure kq_13
      replace kk := kk.pure kq_13
      replace hd_2 := hd_2.pure kq_13
      replace hm7 := hm7.pure kq_13
      replace hn := hn.pure kq_13
      have hm8 := hm7.rsl
      refine WL.toStr Tryd.underlying26 Tryd.underlying5 Tryd.underlying9 hm8 rfl rfl ?_
      refine WL.nil (WX.one ⟨hd_2, ?_⟩)
      refine ⟨?_, trivial, trivial, trivial, trivial⟩
      refine DT.step [(26, _)] rfl ⟨rfl, trivial⟩ rfl (fun wq_14 kq_14 => ?_)
      have zs_kq_14 := kq_14.size
      replace hr := hr.pure kq_14
      replace kk := kk.pure kq_14
      replace hd_2 := hd_2.pure kq_14
      replace hm7 := hm7.pure kq_14
      replace hn := hn.pure kq_14
      refine WL.toStr Tryd.underlying26 Tryd.underlying5 Tryd.underlying9 hn.rsl rfl rfl ?_
      refine WL.nil (WX.one ⟨hd_2, ?_⟩)
      refine ⟨?_, trivial, trivial, trivial⟩
      refine DT.step [(27, _), (28, _)] rfl ⟨rfl, rfl, trivial⟩ rfl (fun wq_15 kq_15 => ?_)
      have zs_kq_15 := kq_15.size
      replace hr := hr.pure kq_15
      replace kk := kk.pure kq_15
      replace hd_2 := hd_2.pure kq_15
      replace hm7 := hm7.pure kq_15
      replace hn := hn.pure kq_15
      have hV2 : (⟨[B8 (Y.size : Int)].toArray⟩ : ByteArray) ++ Y = ⟨(B8 (Y.size : Int) :: (B ++ sumB B)).toArray⟩ := by rw [eY, sx_append]; rfl
      refine WL.sadd rfl rfl (by show [B8 (Y.size : Int)].toArray.size + Y.size ≤ _; rw [hYl]; simp; omega) rfl ?_
      rw [hV2]
      obtain ⟨V, eV⟩ : ∃ V : ByteArray, V = ⟨(B8 (Y.size : Int) :: (B ++ sumB B)).toArray⟩ := ⟨_, rfl⟩
      have hVl : V.size = B.length + 33 := by rw [eV]; show (B8 (Y.size : Int) :: (B ++ sumB B)).toArray.size = _; rw [List.size_toArray, List.length_cons, List.length_append, hsl]
      rw [← eV]
      refine WL.nil (WX.one ⟨hd_2, ?_⟩)
      refine ⟨?_, trivial, trivial⟩
      refine DT.step [(29, _), (34, _)] rfl ⟨rfl, rfl, trivial⟩ rfl (fun wq_16 kq_16 => ?_)
      have zs_kq_16 := kq_16.size
      replace hr := hr.pure kq_16
      replace kk := kk.pure kq_16
      replace hd_2 := hd_2.pure kq_16
      replace hm7 := hm7.pure kq_16
      replace hn := hn.pure kq_16
      refine WL.sadd rfl rfl (by show V.size + (List.replicate (95 - B.length) (0 : UInt8)).toArray.size ≤ _; rw [List.size_toArray, List.length_replicate]; omega) rfl ?_
      refine WL.nil (WX.one ⟨hd_2, ?_⟩)
      refine ⟨?_, trivial⟩
      refine DT.step [(35, _)] rfl ⟨rfl, trivial⟩ rfl (fun wq_17 kq_17 => ?_)
      have zs_kq_17 := kq_17.size
      replace hr := hr.pure kq_17
      replace kk := kk.pure kq_17
      replace hd_2 := hd_2.pure kq_17
      replace hm7 := hm7.pure kq_17
      replace hn := hn.pure kq_17
      refine WL.assign rfl rfl (?_)
      refine WL.nil (WX.one ⟨hd_2, ?_⟩)
      refine DT.done (fun we_18 ke_18 => ?_) _
      have zs_ke_18 := ke_18.size
      replace hr := hr.pure ke_18
      replace kk := kk.pure ke_18
      replace hd_2 := hd_2.pure ke_18
      replace hm7 := hm7.pure ke_18
      replace hn := hn.pure ke_18
      rotate_left
      refine DT.step [(33, _)] rfl ⟨rfl, trivial⟩ rfl (fun wq_12 kq_12 => ?_)
      have zs_kq_12 := kq_12.size
      replace hr := hr.pure kq_12
      replace kk := kk.pure kq_12
      replace hd_2 := hd_2.pure kq_12
      replace hm7 := hm7.pure kq_12
      have hm8 := hm7.rsl
      refine WL.toStr Tryd.underlying26 Tryd.underlying5 Tryd.underlying9 hm8 rfl rfl ?_
      refine WL.nil (WX.one ⟨hd_2, ?_⟩)
      refine ⟨?_, trivial, trivial, trivial, trivial, trivial⟩
      refine DT.step [(25, _)] rfl ⟨rfl, trivial⟩ rfl (fun wq_13 kq_13 => ?_)
      have zs_kq_13 := kq_13.size
      replace hr := hr.pure kq_13
      replace kk := kk.pure kq_13
      replace hd_2 := hd_2.pure kq_13
      replace hm7 := hm7.pure kq_13
      refine WL.build (e := eb) [B8 (Y.size : Int)] Tryd.underlying26 Tryd.sizeOf5 Tryd.zeroValue5 rfl rfl rfl (by simp [Value.cells] <;> rfl) (by decide) rfl ?_
      intro a_hn w_hn hn l_hn z_hn k_hn
      have zs_k_hn := k_hn.size
      replace hr := hr.pure k_hn
      replace kk := kk.pure k_hn
      replace hd_2 := hd_2.pure k_hn
      replace hm7 := hm7.pure k_hn
      refine WL.nil (WX.one ⟨hd_2, ?_⟩)
      refine ⟨?_, trivial, trivial, trivial, trivial⟩
      refine DT.step [(26, _)] rfl ⟨rfl, trivial⟩ rfl (fun wq_14 kq_14 => ?_)
      have zs_kq_14 := kq_14.size
      replace hr := hr.pure kq_14
      replace kk := kk.pure kq_14
      replace hd_2 := hd_2.pure kq_14
      replace hm7 := hm7.pure kq_14
      replace hn := hn.pure kq_14
      refine WL.toStr Tryd.underlying26 Tryd.underlying5 Tryd.underlying9 hn.rsl rfl rfl ?_
      refine WL.nil (WX.one ⟨hd_2, ?_⟩)
      refine ⟨?_, trivial, trivial, trivial⟩
      refine DT.step [(27, _), (28, _)] rfl ⟨rfl, rfl, trivial⟩ rfl (fun wq_15 kq_15 => ?_)
      have zs_kq_15 := kq_15.size
      replace hr := hr.pure kq_15
      replace kk := kk.pure kq_15
      replace hd_2 := hd_2.pure kq_15
      replace hm7 := hm7.pure kq_15
      replace hn := hn.pure kq_15
      have hV2 : (⟨[B8 (Y.size : Int)].toArray⟩ : ByteArray) ++ Y = ⟨(B8 (Y.size : Int) :: (B ++ sumB B)).toArray⟩ := by rw [eY, sx_append]; rfl
      refine WL.sadd rfl rfl (by show [B8 (Y.size : Int)].toArray.size + Y.size ≤ _; rw [hYl]; simp; omega) rfl ?_
      rw [hV2]
      obtain ⟨V, eV⟩ : ∃ V : ByteArray, V = ⟨(B8 (Y.size : Int) :: (B ++ sumB B)).toArray⟩ := ⟨_, rfl⟩
      have hVl : V.size = B.length + 33 := by rw [eV]; show (B8 (Y.size : Int) :: (B ++ sumB B)).toArray.size = _; rw [List.size_toArray, List.length_cons, List.length_append, hsl]
      rw [← eV]
      refine WL.nil (WX.one ⟨hd_2, ?_⟩)
      refine ⟨?_, trivial, trivial⟩
      refine DT.step [(29, _), (34, _)] rfl ⟨rfl, rfl, trivial⟩ rfl (fun wq_16 kq_16 => ?_)
      have zs_kq_16 := kq_16.size
      replace hr := hr.pure kq_16
      replace kk := kk.pure kq_16
      replace hd_2 := hd_2.pure kq_16
      replace hm7 := hm7.pure kq_16
      replace hn := hn.pure kq_16
      refine WL.sadd rfl rfl (by show V.size + (List.replicate (95 - B.length) (0 : UInt8)).toArray.size ≤ _; rw [List.size_toArray, List.length_replicate]; omega) rfl ?_
      refine WL.nil (WX.one ⟨hd_2, ?_⟩)
      refine ⟨?_, trivial⟩
      refine DT.step [(35, _)] rfl ⟨rfl, trivial⟩ rfl (fun wq_17 kq_17 => ?_)
      have zs_kq_17 := kq_17.size
      replace hr := hr.pure kq_17
      replace kk := kk.pure kq_17
      replace hd_2 := hd_2.pure kq_17
      replace hm7 := hm7.pure kq_17
      replace hn := hn.pure kq_17
      refine WL.assign rfl rfl (?_)
      refine WL.nil (WX.one ⟨hd_2, ?_⟩)
      refine DT.done (fun we_18 ke_18 => ?_) _
      have zs_ke_18 := ke_18.size
      replace hr := hr.pure ke_18
      replace kk := kk.pure ke_18
      replace hd_2 := hd_2.pure ke_18
      replace hm7 := hm7.pure ke_18
      replace hn := hn.pure ke_18
      rotate_left
      all_goals
        refine WX.then_normal (WC.ret (?_))
        refine WX.ret2 (.inl rfl) Tryd.results35 rfl rfl ?_
        first
          | (have h1 : secE l = checkE l := by rw [secE, if_neg h12]
             refine ⟨_, rfl, ?_, kk⟩
             rw [secB, h1, if_neg h12]
             rfl)
          | (have hB : B = encAll l := by rw [eB, if_pos h12]
             have hB2 : 95 < (encAll l).length := by rw [← hB]; omega
             have h1 : secE l = 14 := by rw [secE, if_pos h12, if_pos hB2]
             refine ⟨_, rfl, ?_, kk⟩
             rw [secB, h1, if_neg (by decide)]
             done)
          | (have hB : B = encAll l := by rw [eB, if_pos h12]
             have hB2 : ¬ 95 < (encAll l).length := by rw [← hB]; omega
             have h1 : secE l = 0 := by rw [secE, if_pos h12, if_neg hB2]
             refine ⟨_, rfl, ?_, kk⟩
             rw [eV, sx_append, h1, secB, h1, if_pos rfl, ← hB, hYl]
             rfl)
end Go.Proofs.YtjeldcjchipdgaaDoor
namespace Go.Proofs.YtjeldcjchipdgaaDoor
open Go.RowKit Go.HL
set_option maxRecDepth 100000

theorem ba_ext {X : ByteArray} {b : List UInt8} (h : X.data.toList = b) : X = ⟨b.toArray⟩ := by
  apply ByteArray.ext
  apply Array.ext'
  simpa using h
theorem decE_some {c : List UInt8} (h : decE c = 0) : dec 0 c = some (decL c) := by
  unfold decE at h
  unfold decL
  cases hd : dec 0 c with
  | none => rw [hd] at h; cases h
  | some l => rfl
/-- the document's words for what is in a sector -/
theorem un_doc {b : List UInt8} {s : List UInt8} {n : Nat} (hn : n = (b.getD 0 0).toNat) (hs : s = (b.take (1 + n)).drop 1) :
    (b.length = 128 ∧ n < 128 ∧ (openR s).2 = 0 ∧ decE (openR s).1 = 0 ∧ secE (decL (openR s).1) = 0 ∧ secB (decL (openR s).1) = b → unL b = decL (openR s).1 ∧ unE b = 0) ∧
    (¬ (b.length = 128 ∧ n < 128 ∧ (openR s).2 = 0 ∧ decE (openR s).1 = 0 ∧ secE (decL (openR s).1) = 0 ∧ secB (decL (openR s).1) = b) → unL b = [] ∧ unE b = 2) := by
  subst hn; subst hs
  constructor
  · rintro ⟨g1, g2, g3, g4, g5, g6⟩
    have hd := decE_some g4
    obtain ⟨d1, d2, d3⟩ := dec_spec _ _ (Nat.le_refl _) 0 _ (by omega) hd
    have h := un_sec g5 (fun i hi => (d2 i hi).2.2)
    rw [g6] at h
    exact un_yes' h
  · intro h
    refine un_not (fun l hl => h ?_)
    obtain ⟨p1, p2, p3, p4, p5, p6, p7⟩ := un_parts hl
    have e1 : decL (openR ((b.take (1 + (b.getD 0 0).toNat)).drop 1)).1 = l := by rw [decL, p4]; rfl
    have e2 : decE (openR ((b.take (1 + (b.getD 0 0).toNat)).drop 1)).1 = 0 := by rw [decE, p4]; rfl
    rw [e1, e2]
    exact ⟨p1, p2, p3, rfl, p6, p7⟩
theorem dec_len (c : List UInt8) : (decL c).length ≤ 2000 := by
  unfold decL
  cases h : dec 0 c with
  | none => simp
  | some l => have := (dec_spec _ _ (Nat.le_refl _) 0 l (by omega) h).1; simpa using this
theorem dec_rit (c : List UInt8) : ∀ i ∈ decL c, RIt i := by
  unfold decL
  cases h : dec 0 c with
  | none => simp
  | some l => exact fun i hi => ((dec_spec _ _ (Nat.le_refl _) 0 l (by omega) h).2.1 i hi).2.2
theorem secB_128 {l : List Item} (h : secE l = 0) : (secB l).length = 128 := by
  have h1 : (encAll l).length ≤ 95 := by
    unfold secE at h
    split at h
    · split at h
      · cases h
      · omega
    · rename_i h1; exact absurd h h1
  rw [secB, if_pos h, sec_len h1]
theorem docUnsector_calls (X : ByteArray) (w : World) (hl : X.size ≤ 140737488351232) :
    Calls Tryd.prog 38 [.string X].toArray w (Ret fun v w' => (∃ (ao' : Option Addr) (c' : Nat), v = .tuple #[.slice ao' (unL X.data.toList).length c', vi (unE X.data.toList)] ∧ Row (w.heap.size ≤ ·) w' 75 eit ao' c' (unL X.data.toList)) ∧ Chg Nob w w') := by
  have kk := Chg.refl Nob w
  obtain ⟨b, hb⟩ : ∃ b, b = X.data.toList := ⟨_, rfl⟩
  have hbl : b.length = X.size := by rw [hb]; simp
  obtain ⟨n, hn⟩ : ∃ n, n = (b.getD 0 0).toNat := ⟨_, rfl⟩
  obtain ⟨s, hs⟩ : ∃ s, s = (b.take (1 + n)).drop 1 := ⟨_, rfl⟩
  rw [← hb]
  refine Calls.of_WC Tryd.func38 rfl Tryd.ntmps38 (by simp) ?_
  refine WC.seq (WC.region (WL.assign rfl rfl (WL.assign rfl rfl (WL.nil (WX.then_normal (WC.seq (WC.seq (?_))))))))
  refine WC.region (WL.move rfl rfl (WL.lens Tryd.underlying9 rfl rfl (?_)))
  refine WL.neq? rfl rfl rfl (fun h10 => ?_) (fun h10 => ?_)
  ·
    refine WL.move rfl rfl (WL.pass rfl rfl rfl rfl (WL.pass rfl rfl rfl rfl (WL.pass rfl rfl rfl rfl (WL.pass rfl rfl rfl rfl (WL.pickT rfl rfl rfl (WL.nil (WX.then_normal (?_))))))))
    refine WC.cond_true rfl (WC.seq (WC.region (WL.assign rfl rfl (WL.assign rfl rfl (WL.nil (WX.then_normal (WC.ret (?_))))))))
    refine WX.then_ret (?_)
    refine WX.ret2 (.inl rfl) Tryd.results38 rfl rfl ?_
    obtain ⟨hy1, hy2⟩ := un_doc hn hs
    by_cases hc : b.length = 128 ∧ n < 128 ∧ (openR s).2 = 0 ∧ decE (openR s).1 = 0 ∧ secE (decL (openR s).1) = 0 ∧ secB (decL (openR s).1) = b
    ·
      obtain ⟨u1, u2⟩ := hy1 hc
      obtain ⟨g1, g2, g3, g4, g5, g6⟩ := hc
      rw [u1, u2]
      first
        | (exact ⟨_, rfl, ⟨a3, c3, rfl, hq.mono (fun x hx => by omega)⟩, kk⟩)
        | (exfalso; omega)
        | (exfalso; first | exact absurd g3 (by assumption) | exact absurd g4 (by assumption) | exact absurd g5 (by assumption))
        | (exfalso; refine h46 ?_; rw [g6]; exact (ba_ext hb.symm).symm)
    ·
      obtain ⟨u1, u2⟩ := hy2 hc
      rw [u1, u2]
      first
        | (exact ⟨_, rfl, ⟨none, 0, rfl, Row.nil _ _ _ _⟩, kk⟩)
        | (exfalso
           refine hc ⟨by omega, by omega, h28, h35, h42, ?_⟩
           have h9 := congrArg (fun Z : ByteArray => Z.data.toList) h46
           rw [hb]
           exact h9)
  ·
    refine WL.move rfl rfl (WL.want rfl rfl rfl (WL.move rfl rfl (WL.want rfl rfl rfl (?_))))
    obtain ⟨x, hx⟩ : ∃ x, X.data.toList[0]? = some x := ⟨_, List.getElem?_eq_getElem (by rw [← hb]; omega)⟩
    have hxn : x.toNat = n := by rw [hn, List.getD_eq_getElem?_getD, hb, hx]; rfl
    refine WL.sindex Tryd.underlying9 rfl rfl _ rfl _ hx rfl ?_
    refine WL.want rfl rfl rfl (WL.c_u8_i64 Tryd.underlying5 Tryd.underlying3 rfl rfl (WL.want rfl rfl rfl (?_)))
    refine WL.gtr? rfl rfl rfl (fun h15 => ?_) (fun h15 => ?_)
    ·
      refine WL.pickF rfl rfl rfl (WL.nil (WX.then_normal (WC.cond_true rfl (WC.seq (WC.region (WL.assign rfl rfl (WL.assign rfl rfl (?_))))))))
      refine WL.nil (WX.then_normal (WC.ret (WX.then_ret (?_))))
      refine WX.ret2 (.inl rfl) Tryd.results38 rfl rfl ?_
      obtain ⟨hy1, hy2⟩ := un_doc hn hs
      by_cases hc : b.length = 128 ∧ n < 128 ∧ (openR s).2 = 0 ∧ decE (openR s).1 = 0 ∧ secE (decL (openR s).1) = 0 ∧ secB (decL (openR s).1) = b
      ·
        obtain ⟨u1, u2⟩ := hy1 hc
        obtain ⟨g1, g2, g3, g4, g5, g6⟩ := hc
        rw [u1, u2]
        first
          | (exact ⟨_, rfl, ⟨a3, c3, rfl, hq.mono (fun x hx => by omega)⟩, kk⟩)
          | (exfalso; omega)
          | (exfalso; first | exact absurd g3 (by assumption) | exact absurd g4 (by assumption) | exact absurd g5 (by assumption))
          | (exfalso; refine h46 ?_; rw [g6]; exact (ba_ext hb.symm).symm)
      ·
        obtain ⟨u1, u2⟩ := hy2 hc
        rw [u1, u2]
        first
          | (exact ⟨_, rfl, ⟨none, 0, rfl, Row.nil _ _ _ _⟩, kk⟩)
          | (exfalso
             refine hc ⟨by omega, by omega, h28, h35, h42, ?_⟩
             have h9 := congrArg (fun Z : ByteArray => Z.data.toList) h46
             rw [hb]
             exact h9)
    ·
      refine WL.pickF rfl rfl rfl (WL.nil (WX.then_normal (WC.cond_false rfl (WC.skip (WX.then_normal (WC.seq (WC.region (?_))))))))
      refine WL.move rfl rfl (WL.move rfl rfl (?_))
      refine WL.sindex Tryd.underlying9 rfl rfl _ rfl _ hx rfl ?_
      refine WL.c_u8_i64 Tryd.underlying5 Tryd.underlying3 rfl rfl (?_)
      refine WL.add64 rfl rfl (by constructor <;> omega) rfl ?_
      rw [show ((1 : Int) + x.toNat) = ((1 + n : Nat) : Int) from by omega]
      refine WL.sslice (l := 1) (h := 1 + n) Tryd.underlying9 rfl (.inl rfl) (.inl rfl) (by constructor <;> omega) rfl ?_
      have e2 : (X.extract 1 (1 + n)).data.toList = s := by
        rw [hs, hb]
        cases hX : X.data.toList with
        | nil => simp [hX]
        | cons y r => simp [hX, Nat.add_comm 1 n]
      have e3 : (X.extract 1 (1 + n)).size ≤ 4000 := by simp; omega
      refine WL.call eg_66 rfl rfl (docOpen_calls _ _ e3) ?_
      rintro v w2 ⟨rfl, k2⟩
      rw [e2]
      have hsl : s.length ≤ 128 := by rw [hs, List.length_drop, List.length_take]; omega
      have hol := openR_len s
      obtain ⟨Y, eY⟩ : ∃ Y : ByteArray, Y = ⟨(openR s).1.toArray⟩ := ⟨_, rfl⟩
      have hYl : Y.size ≤ 140737488351232 := by rw [eY]; show (openR s).1.toArray.size ≤ _; rw [List.size_toArray]; omega
      rw [← eY]
      have zs_k2 := k2.size
      replace kk := kk.pure k2
      refine WL.move rfl rfl (WL.extract rfl rfl rfl (WL.extract rfl rfl rfl (WL.assign rfl rfl (WL.assign rfl rfl (WL.nil (WX.then_normal (WC.seq (?_))))))))
      refine WC.seq (WC.region (WL.move rfl rfl (?_)))
      refine WL.neq? rfl rfl rfl (fun h28 => ?_) (fun h28 => ?_)
      ·
        refine WL.nil (WX.then_normal (WC.cond_true rfl (WC.seq (WC.region (WL.assign rfl rfl (WL.assign rfl rfl (WL.nil (?_))))))))
        refine WX.then_normal (WC.ret (WX.then_ret (?_)))
        refine WX.ret2 (.inl rfl) Tryd.results38 rfl rfl ?_
        obtain ⟨hy1, hy2⟩ := un_doc hn hs
        by_cases hc : b.length = 128 ∧ n < 128 ∧ (openR s).2 = 0 ∧ decE (openR s).1 = 0 ∧ secE (decL (openR s).1) = 0 ∧ secB (decL (openR s).1) = b
        ·
          obtain ⟨u1, u2⟩ := hy1 hc
          obtain ⟨g1, g2, g3, g4, g5, g6⟩ := hc
          rw [u1, u2]
          first
            | (exact ⟨_, rfl, ⟨a3, c3, rfl, hq.mono (fun x hx => by omega)⟩, kk⟩)
            | (exfalso; omega)
            | (exfalso; first | exact absurd g3 (by assumption) | exact absurd g4 (by assumption) | exact absurd g5 (by assumption))
            | (exfalso; refine h46 ?_; rw [g6]; exact (ba_ext hb.symm).symm)
        ·
          obtain ⟨u1, u2⟩ := hy2 hc
          rw [u1, u2]
          first
            | (exact ⟨_, rfl, ⟨none, 0, rfl, Row.nil _ _ _ _⟩, kk⟩)
            | (exfalso
               refine hc ⟨by omega, by omega, h28, h35, h42, ?_⟩
               have h9 := congrArg (fun Z : ByteArray => Z.data.toList) h46
               rw [hb]
               exact h9)
      ·
        refine WL.nil (WX.then_normal (WC.cond_false rfl (WC.skip (WX.then_normal (WC.seq (WC.region (WL.move rfl rfl (?_))))))))
        refine WL.call eg_67 rfl rfl (rdecode_calls hYl) ?_
        rintro v w3 ⟨⟨a3, c3, rfl, hq⟩, k3⟩
        rw [show Y.data.toList = (openR s).1 from by rw [eY]] at hq ⊢
        have zs_k3 := k3.size
        replace kk := kk.pure k3
        replace hq := hq.lt
        refine WL.move rfl rfl (WL.extract rfl rfl rfl (WL.extract rfl rfl rfl (WL.assign rfl rfl (WL.assign rfl rfl (WL.nil (WX.then_normal (WC.seq (?_))))))))
        refine WC.seq (WC.region (WL.move rfl rfl (?_)))
        refine WL.neq? rfl rfl rfl (fun h35 => ?_) (fun h35 => ?_)
        ·
          refine WL.nil (WX.then_normal (WC.cond_true rfl (WC.seq (WC.region (WL.assign rfl rfl (WL.assign rfl rfl (WL.nil (?_))))))))
          refine WX.then_normal (WC.ret (WX.then_ret (?_)))
          refine WX.ret2 (.inl rfl) Tryd.results38 rfl rfl ?_
          obtain ⟨hy1, hy2⟩ := un_doc hn hs
          by_cases hc : b.length = 128 ∧ n < 128 ∧ (openR s).2 = 0 ∧ decE (openR s).1 = 0 ∧ secE (decL (openR s).1) = 0 ∧ secB (decL (openR s).1) = b
          ·
            obtain ⟨u1, u2⟩ := hy1 hc
            obtain ⟨g1, g2, g3, g4, g5, g6⟩ := hc
            rw [u1, u2]
            first
              | (exact ⟨_, rfl, ⟨a3, c3, rfl, hq.mono (fun x hx => by omega)⟩, kk⟩)
              | (exfalso; omega)
              | (exfalso; first | exact absurd g3 (by assumption) | exact absurd g4 (by assumption) | exact absurd g5 (by assumption))
              | (exfalso; refine h46 ?_; rw [g6]; exact (ba_ext hb.symm).symm)
          ·
            obtain ⟨u1, u2⟩ := hy2 hc
            rw [u1, u2]
            first
              | (exact ⟨_, rfl, ⟨none, 0, rfl, Row.nil _ _ _ _⟩, kk⟩)
              | (exfalso
                 refine hc ⟨by omega, by omega, h28, h35, h42, ?_⟩
                 have h9 := congrArg (fun Z : ByteArray => Z.data.toList) h46
                 rw [hb]
                 exact h9)
        ·
          refine WL.nil (WX.then_normal (WC.cond_false rfl (WC.skip (WX.then_normal (WC.seq (WC.region (WL.move rfl rfl (?_))))))))
          have hq1 := hq.rsl.old
          refine WL.call eg_35 rfl rfl (docSector_calls hq1 (by have := dec_len (openR s).1; omega) (dec_rit _)) ?_
          rintro v w4 ⟨rfl, k4⟩
          have zs_k4 := k4.size
          replace kk := kk.pure k4
          replace hq := hq.pure k4
          refine WL.move rfl rfl (WL.extract rfl rfl rfl (WL.extract rfl rfl rfl (WL.assign rfl rfl (WL.assign rfl rfl (WL.nil (WX.then_normal (WC.seq (?_))))))))
          refine WC.seq (WC.region (WL.move rfl rfl (?_)))
          refine WL.neq? rfl rfl rfl (fun h42 => ?_) (fun h42 => ?_)
          ·
            refine WL.move rfl rfl (WL.pass rfl rfl rfl rfl (WL.pass rfl rfl rfl rfl (WL.pass rfl rfl rfl rfl (WL.pickT rfl rfl rfl (WL.nil (WX.then_normal (WC.cond_true rfl (?_))))))))
            refine WC.seq (WC.region (WL.assign rfl rfl (WL.assign rfl rfl (WL.nil (WX.then_normal (WC.ret (WX.then_ret (?_))))))))
            refine WX.ret2 (.inl rfl) Tryd.results38 rfl rfl ?_
            obtain ⟨hy1, hy2⟩ := un_doc hn hs
            by_cases hc : b.length = 128 ∧ n < 128 ∧ (openR s).2 = 0 ∧ decE (openR s).1 = 0 ∧ secE (decL (openR s).1) = 0 ∧ secB (decL (openR s).1) = b
            ·
              obtain ⟨u1, u2⟩ := hy1 hc
              obtain ⟨g1, g2, g3, g4, g5, g6⟩ := hc
              rw [u1, u2]
              first
                | (exact ⟨_, rfl, ⟨a3, c3, rfl, hq.mono (fun x hx => by omega)⟩, kk⟩)
                | (exfalso; omega)
                | (exfalso; first | exact absurd g3 (by assumption) | exact absurd g4 (by assumption) | exact absurd g5 (by assumption))
                | (exfalso; refine h46 ?_; rw [g6]; exact (ba_ext hb.symm).symm)
            ·
              obtain ⟨u1, u2⟩ := hy2 hc
              rw [u1, u2]
              first
                | (exact ⟨_, rfl, ⟨none, 0, rfl, Row.nil _ _ _ _⟩, kk⟩)
                | (exfalso
                   refine hc ⟨by omega, by omega, h28, h35, h42, ?_⟩
                   have h9 := congrArg (fun Z : ByteArray => Z.data.toList) h46
                   rw [hb]
                   exact h9)
          ·
            refine WL.move rfl rfl (WL.want rfl rfl rfl (WL.move rfl rfl (WL.want rfl rfl rfl (WL.move rfl rfl (WL.want rfl rfl rfl (?_))))))
            refine WL.sneq? rfl rfl rfl (fun h46 => ?_) (fun h46 => ?_)
            ·
              refine WL.pickF rfl rfl rfl (WL.nil (WX.then_normal (WC.cond_true rfl (WC.seq (WC.region (WL.assign rfl rfl (WL.assign rfl rfl (?_))))))))
              refine WL.nil (WX.then_normal (WC.ret (WX.then_ret (?_))))
              refine WX.ret2 (.inl rfl) Tryd.results38 rfl rfl ?_
              obtain ⟨hy1, hy2⟩ := un_doc hn hs
              by_cases hc : b.length = 128 ∧ n < 128 ∧ (openR s).2 = 0 ∧ decE (openR s).1 = 0 ∧ secE (decL (openR s).1) = 0 ∧ secB (decL (openR s).1) = b
              ·
                obtain ⟨u1, u2⟩ := hy1 hc
                obtain ⟨g1, g2, g3, g4, g5, g6⟩ := hc
                rw [u1, u2]
                first
                  | (exact ⟨_, rfl, ⟨a3, c3, rfl, hq.mono (fun x hx => by omega)⟩, kk⟩)
                  | (exfalso; omega)
                  | (exfalso; first | exact absurd g3 (by assumption) | exact absurd g4 (by assumption) | exact absurd g5 (by assumption))
                  | (exfalso; refine h46 ?_; rw [g6]; exact (ba_ext hb.symm).symm)
              ·
                obtain ⟨u1, u2⟩ := hy2 hc
                rw [u1, u2]
                first
                  | (exact ⟨_, rfl, ⟨none, 0, rfl, Row.nil _ _ _ _⟩, kk⟩)
                  | (exfalso
                     refine hc ⟨by omega, by omega, h28, h35, h42, ?_⟩
                     have h9 := congrArg (fun Z : ByteArray => Z.data.toList) h46
                     rw [hb]
                     exact h9)
            ·
              refine WL.pickF rfl rfl rfl (WL.nil (WX.then_normal (WC.cond_false rfl (WC.skip (WX.then_normal (WC.seq (WC.region (?_))))))))
              refine WL.move rfl rfl (WL.assign rfl rfl (WL.assign rfl rfl (WL.nil (WX.then_normal (WC.ret (?_))))))
              refine WX.ret2 (.inl rfl) Tryd.results38 rfl rfl ?_
              obtain ⟨hy1, hy2⟩ := un_doc hn hs
              by_cases hc : b.length = 128 ∧ n < 128 ∧ (openR s).2 = 0 ∧ decE (openR s).1 = 0 ∧ secE (decL (openR s).1) = 0 ∧ secB (decL (openR s).1) = b
              ·
                obtain ⟨u1, u2⟩ := hy1 hc
                obtain ⟨g1, g2, g3, g4, g5, g6⟩ := hc
                rw [u1, u2]
                first
                  | (exact ⟨_, rfl, ⟨a3, c3, rfl, hq.mono (fun x hx => by omega)⟩, kk⟩)
                  | (exfalso; omega)
                  | (exfalso; first | exact absurd g3 (by assumption) | exact absurd g4 (by assumption) | exact absurd g5 (by assumption))
                  | (exfalso; refine h46 ?_; rw [g6]; exact (ba_ext hb.symm).symm)
              ·
                obtain ⟨u1, u2⟩ := hy2 hc
                rw [u1, u2]
                first
                  | (exact ⟨_, rfl, ⟨none, 0, rfl, Row.nil _ _ _ _⟩, kk⟩)
                  | (exfalso
                     refine hc ⟨by omega, by omega, h28, h35, h42, ?_⟩
                     have h9 := congrArg (fun Z : ByteArray => Z.data.toList) h46
                     rw [hb]
                     exact h9)
end Go.Proofs.YtjeldcjchipdgaaDoor
namespace Go.Proofs.YtjeldcjchipdgaaDoor
open Go.RowKit Go.HL
set_option maxRecDepth 100000

/-! pointers -/
structure PtrV where
  a : Int
  z : Int
  b : Int
  s : ByteArray
theorem PtrV.eq_iff (p q : PtrV) : (p.a = q.a ∧ p.z = q.z ∧ p.b = q.b ∧ p.s = q.s) ↔ p = q := by
  obtain ⟨a, z, b, s⟩ := p
  obtain ⟨a2, z2, b2, s2⟩ := q
  simp
instance : DecidableEq PtrV := fun a b => decidable_of_iff _ (PtrV.eq_iff a b)
def ept : Enc PtrV := ⟨4, fun p => [vi p.a, vi p.z, vi p.b, .string p.s], fun _ => rfl, by simp [Value.oneCell'], by decide⟩
def WfP (p : PtrV) : Prop := (-9223372036854775808 ≤ p.a ∧ p.a ≤ 9223372036854775807) ∧ (-9223372036854775808 ≤ p.z ∧ p.z ≤ 9223372036854775807) ∧ (-9223372036854775808 ≤ p.b ∧ p.b ≤ 9223372036854775807)
def rightP (p : PtrV) : Prop := 0 ≤ p.a ∧ 0 ≤ p.b ∧ 1 ≤ p.z ∧ p.z ≤ 1024 ∧ p.s.size = 32
instance (p : PtrV) : Decidable (rightP p) := by unfold rightP; infer_instance
def pit (p : PtrV) : List Item := [⟨1, p.a, ⟨#[]⟩⟩, ⟨1, p.z, ⟨#[]⟩⟩, ⟨1, p.b, ⟨#[]⟩⟩, ⟨2, 0, p.s⟩]
theorem pit_good {p : PtrV} (h : rightP p) (hw : WfP p) : ∀ i ∈ pit p, Good i := by
  obtain ⟨h1, h2, h3, h4, h5⟩ := h
  obtain ⟨w1, w2, w3⟩ := hw
  intro i hi
  simp only [pit, List.mem_cons, List.not_mem_nil, or_false] at hi
  rcases hi with rfl | rfl | rfl | rfl
  · exact ⟨by simp [longI], by simp [okI], w1⟩
  · exact ⟨by simp [longI], by simp [okI], w2⟩
  · exact ⟨by simp [longI], by simp [okI], w3⟩
  · exact ⟨by simp [longI]; omega, by simp [okI], ⟨show (-9223372036854775808 : Int) ≤ 0 by decide, show (0 : Int) ≤ 9223372036854775807 by decide⟩⟩
theorem pit_check {p : PtrV} (h : rightP p) (hw : WfP p) : checkE (pit p) = 0 := icheck_good (by simp [pit]) (pit_good h hw)
def ptrS (p : PtrV) : ByteArray := if rightP p then ⟨(encAll (pit p)).toArray⟩ else ⟨#[]⟩
def ptrE (p : PtrV) : Int := if rightP p then 0 else 2

theorem ptr_calls (p : PtrV) (w : World) (hw : WfP p) : Calls Tryd.prog 36 [.agg (ept.f p).toArray].toArray w (Ret fun v w' => v = .tuple #[.string (ptrS p), vi (ptrE p)] ∧ Chg Nob w w') := by
  have kk := Chg.refl Nob w
  refine Calls.of_WC Tryd.func36 rfl Tryd.ntmps36 (by simp) ?_
  refine WC.seq (WC.region (?_))
  refine WL.box rfl rfl ?_
  intro g_1 w_1 hge_1 hlt_1 hb_1 k_1
  have zs_k_1 := k_1.size
  replace kk := kk.pure k_1
  refine WL.assign rfl rfl (WL.assign rfl rfl (WL.nil (WX.then_normal (WC.seq (WC.seq (WC.region (WL.fieldAddr (fld_23_0) rfl rfl (?_))))))))
  refine WL.loadB Tryd.isAgg3 hb_1 rfl rfl rfl (?_)
  refine WL.lss? rfl rfl rfl (fun h8 => ?_) (fun h8 => ?_)
  ·
    refine WL.move rfl rfl (WL.pass rfl rfl rfl rfl (WL.pass rfl rfl rfl rfl (WL.pass rfl rfl rfl rfl (WL.pickT rfl rfl rfl (WL.move rfl rfl (WL.pass rfl rfl rfl rfl (WL.pass rfl rfl rfl rfl (?_))))))))
    refine WL.pass rfl rfl rfl rfl (WL.pickT rfl rfl rfl (WL.move rfl rfl (WL.pass rfl rfl rfl rfl (WL.pass rfl rfl rfl rfl (WL.pass rfl rfl rfl rfl (WL.pickT rfl rfl rfl (WL.move rfl rfl (?_))))))))
    refine WL.pass rfl rfl rfl rfl (WL.pass rfl rfl rfl rfl (WL.pass rfl rfl rfl rfl (WL.pass rfl rfl rfl rfl (WL.pickT rfl rfl rfl (WL.nil (WX.then_normal (WC.cond_true rfl (?_))))))))
    refine WC.seq (WC.region (WL.assign rfl rfl (WL.assign rfl rfl (WL.nil (WX.then_normal (WC.ret (WX.then_ret (?_))))))))
    refine WX.ret2 (.inl rfl) Tryd.results36 rfl rfl ?_
    first
      | (have hr : ¬ rightP p := by unfold rightP; omega
         refine ⟨_, rfl, ?_, kk⟩
         rw [ptrS, ptrE, if_neg hr, if_neg hr])
      | (refine ⟨_, rfl, ?_, kk⟩
         rw [ptrS, ptrE, if_pos hr, if_pos hr]
         rfl)
  ·
    refine WL.move rfl rfl (WL.want rfl rfl rfl (WL.fieldAddr (fld_23_2) rfl rfl (WL.want rfl rfl rfl (WL.loadB Tryd.isAgg3 hb_1 rfl rfl rfl (WL.want rfl rfl rfl (?_))))))
    refine WL.lss? rfl rfl rfl (fun h12 => ?_) (fun h12 => ?_)
    ·
      refine WL.pickF rfl rfl rfl (WL.move rfl rfl (WL.pass rfl rfl rfl rfl (WL.pass rfl rfl rfl rfl (WL.pass rfl rfl rfl rfl (WL.pickT rfl rfl rfl (WL.move rfl rfl (WL.pass rfl rfl rfl rfl (?_))))))))
      refine WL.pass rfl rfl rfl rfl (WL.pass rfl rfl rfl rfl (WL.pickT rfl rfl rfl (WL.move rfl rfl (WL.pass rfl rfl rfl rfl (WL.pass rfl rfl rfl rfl (WL.pass rfl rfl rfl rfl (WL.pass rfl rfl rfl rfl (?_))))))))
      refine WL.pickT rfl rfl rfl (WL.nil (WX.then_normal (WC.cond_true rfl (WC.seq (WC.region (WL.assign rfl rfl (WL.assign rfl rfl (?_))))))))
      refine WL.nil (WX.then_normal (WC.ret (WX.then_ret (?_))))
      refine WX.ret2 (.inl rfl) Tryd.results36 rfl rfl ?_
      first
        | (have hr : ¬ rightP p := by unfold rightP; omega
           refine ⟨_, rfl, ?_, kk⟩
           rw [ptrS, ptrE, if_neg hr, if_neg hr])
        | (refine ⟨_, rfl, ?_, kk⟩
           rw [ptrS, ptrE, if_pos hr, if_pos hr]
           rfl)
    ·
      refine WL.pickF rfl rfl rfl (WL.move rfl rfl (WL.want rfl rfl rfl (WL.fieldAddr (fld_23_1) rfl rfl (WL.want rfl rfl rfl (WL.loadB Tryd.isAgg3 hb_1 rfl rfl rfl (WL.want rfl rfl rfl (?_)))))))
      refine WL.lss? rfl rfl rfl (fun h17 => ?_) (fun h17 => ?_)
      ·
        refine WL.pickF rfl rfl rfl (WL.move rfl rfl (WL.pass rfl rfl rfl rfl (WL.pass rfl rfl rfl rfl (WL.pass rfl rfl rfl rfl (WL.pickT rfl rfl rfl (WL.move rfl rfl (WL.pass rfl rfl rfl rfl (?_))))))))
        refine WL.pass rfl rfl rfl rfl (WL.pass rfl rfl rfl rfl (WL.pass rfl rfl rfl rfl (WL.pickT rfl rfl rfl (WL.nil (WX.then_normal (WC.cond_true rfl (WC.seq (?_))))))))
        refine WC.region (WL.assign rfl rfl (WL.assign rfl rfl (WL.nil (WX.then_normal (WC.ret (WX.then_ret (?_)))))))
        refine WX.ret2 (.inl rfl) Tryd.results36 rfl rfl ?_
        first
          | (have hr : ¬ rightP p := by unfold rightP; omega
             refine ⟨_, rfl, ?_, kk⟩
             rw [ptrS, ptrE, if_neg hr, if_neg hr])
          | (refine ⟨_, rfl, ?_, kk⟩
             rw [ptrS, ptrE, if_pos hr, if_pos hr]
             rfl)
      ·
        refine WL.pickF rfl rfl rfl (WL.move rfl rfl (WL.want rfl rfl rfl (WL.fieldAddr (fld_23_1) rfl rfl (WL.want rfl rfl rfl (WL.loadB Tryd.isAgg3 hb_1 rfl rfl rfl (WL.want rfl rfl rfl (?_)))))))
        refine WL.gtr? rfl rfl rfl (fun h22 => ?_) (fun h22 => ?_)
        ·
          refine WL.pickF rfl rfl rfl (WL.move rfl rfl (WL.pass rfl rfl rfl rfl (WL.pass rfl rfl rfl rfl (WL.pass rfl rfl rfl rfl (WL.pass rfl rfl rfl rfl (WL.pickT rfl rfl rfl (WL.nil (?_))))))))
          refine WX.then_normal (WC.cond_true rfl (WC.seq (WC.region (WL.assign rfl rfl (WL.assign rfl rfl (WL.nil (WX.then_normal (?_))))))))
          refine WC.ret (WX.then_ret (?_))
          refine WX.ret2 (.inl rfl) Tryd.results36 rfl rfl ?_
          first
            | (have hr : ¬ rightP p := by unfold rightP; omega
               refine ⟨_, rfl, ?_, kk⟩
               rw [ptrS, ptrE, if_neg hr, if_neg hr])
            | (refine ⟨_, rfl, ?_, kk⟩
               rw [ptrS, ptrE, if_pos hr, if_pos hr]
               rfl)
        ·
          refine WL.pickF rfl rfl rfl (WL.move rfl rfl (WL.want rfl rfl rfl (WL.fieldAddr (fld_23_3) rfl rfl (WL.want rfl rfl rfl (WL.loadB Tryd.isAgg9 hb_1 rfl rfl rfl (WL.want rfl rfl rfl (WL.lens Tryd.underlying9 rfl rfl (?_))))))))
          refine WL.want rfl rfl rfl (?_)
          refine WL.neq? rfl rfl rfl (fun h28 => ?_) (fun h28 => ?_)
          ·
            refine WL.pickF rfl rfl rfl (WL.nil (WX.then_normal (WC.cond_true rfl (WC.seq (WC.region (WL.assign rfl rfl (WL.assign rfl rfl (?_))))))))
            refine WL.nil (WX.then_normal (WC.ret (WX.then_ret (?_))))
            refine WX.ret2 (.inl rfl) Tryd.results36 rfl rfl ?_
            first
              | (have hr : ¬ rightP p := by unfold rightP; omega
                 refine ⟨_, rfl, ?_, kk⟩
                 rw [ptrS, ptrE, if_neg hr, if_neg hr])
              | (refine ⟨_, rfl, ?_, kk⟩
                 rw [ptrS, ptrE, if_pos hr, if_pos hr]
                 rfl)
          ·
            refine WL.pickF rfl rfl rfl (WL.nil (WX.then_normal (WC.cond_false rfl (WC.skip (WX.then_normal (WC.seq (WC.region (?_))))))))
            refine WL.fieldAddr (fld_23_0) rfl rfl (WL.loadB Tryd.isAgg3 hb_1 rfl rfl rfl (WL.bld rfl (bld_75_0_1 _ _) rfl (WL.fieldAddr (fld_23_1) rfl rfl (WL.loadB Tryd.isAgg3 hb_1 rfl rfl rfl (WL.bld rfl (bld_75_0_1 _ _) rfl (WL.fieldAddr (fld_23_2) rfl rfl (WL.loadB Tryd.isAgg3 hb_1 rfl rfl rfl (?_))))))))
            refine WL.bld rfl (bld_75_0_1 _ _) rfl (WL.fieldAddr (fld_23_3) rfl rfl (WL.loadB Tryd.isAgg9 hb_1 rfl rfl rfl (WL.bld rfl (bld_75_0_2 _ _) rfl (?_))))
            have hr : rightP p := by unfold rightP; omega
            refine WL.build (e := eit) [⟨1, p.a, ⟨#[]⟩⟩, ⟨1, p.z, ⟨#[]⟩⟩, ⟨1, p.b, ⟨#[]⟩⟩, ⟨2, 0, p.s⟩] Tryd.underlying76 Tryd.sizeOf75 Tryd.zeroValue75 rfl rfl rfl (by simp [Value.cells] <;> rfl) (by decide) rfl ?_
            intro a_ha w_ha ha l_ha z_ha k_ha
            have zs_k_ha := k_ha.size
            replace kk := kk.pure k_ha
            replace hb_1 := hb_1.pure k_ha
            refine WL.call eg_64 rfl rfl (encode_calls ha.rsl (by simp)) ?_
            rintro v w2 ⟨ax, cx, rfl, hx, k2⟩
            rw [show checkE [⟨1, p.a, ⟨#[]⟩⟩, ⟨1, p.z, ⟨#[]⟩⟩, ⟨1, p.b, ⟨#[]⟩⟩, ⟨2, 0, p.s⟩] = 0 from pit_check hr hw] at hx ⊢
            rw [if_pos rfl] at hx ⊢
            have zs_k2 := k2.size
            replace kk := kk.pure k2
            replace hb_1 := hb_1.pure k2
            replace ha := ha.pure k2
            replace hx := hx.lt
            refine WL.move rfl rfl (WL.extract rfl rfl rfl (WL.extract rfl rfl rfl (WL.assign rfl rfl (WL.assign rfl rfl (WL.nil (WX.then_normal (WC.seq (?_))))))))
            refine WC.region (WL.move rfl rfl (WL.toStr Tryd.underlying26 Tryd.underlying5 Tryd.underlying9 hx.rsl rfl rfl (WL.move rfl rfl (WL.assign rfl rfl (WL.assign rfl rfl (WL.nil (WX.then_normal (?_))))))))
            refine WC.ret (?_)
            refine WX.ret2 (.inl rfl) Tryd.results36 rfl rfl ?_
            first
              | (have hr : ¬ rightP p := by unfold rightP; omega
                 refine ⟨_, rfl, ?_, kk⟩
                 rw [ptrS, ptrE, if_neg hr, if_neg hr])
              | (refine ⟨_, rfl, ?_, kk⟩
                 rw [ptrS, ptrE, if_pos hr, if_pos hr]
                 rfl)
theorem rightPtr_calls (p : PtrV) (w : World) : Calls Tryd.prog 59 [.agg (ept.f p).toArray].toArray w (Ret fun v w' => v = .bool (decide (rightP p)) ∧ Chg Nob w w') := by
  have kk := Chg.refl Nob w
  refine Calls.of_WC Tryd.func59 rfl Tryd.ntmps59 (by simp) ?_
  refine WC.seq (WC.region (?_))
  refine WL.box rfl rfl ?_
  intro g_1 w_1 hge_1 hlt_1 hb_1 k_1
  have zs_k_1 := k_1.size
  replace kk := kk.pure k_1
  refine WL.assign rfl rfl (WL.nil (WX.then_normal (WC.seq (WC.region (WL.fieldAddr (fld_23_0) rfl rfl (WL.loadB Tryd.isAgg3 hb_1 rfl rfl rfl (?_)))))))
  refine WL.geq? rfl rfl rfl (fun h5 => ?_) (fun h5 => ?_)
  ·
    refine WL.move rfl rfl (WL.want rfl rfl rfl (WL.fieldAddr (fld_23_2) rfl rfl (WL.want rfl rfl rfl (WL.loadB Tryd.isAgg3 hb_1 rfl rfl rfl (WL.want rfl rfl rfl (?_))))))
    refine WL.geq? rfl rfl rfl (fun h9 => ?_) (fun h9 => ?_)
    ·
      refine WL.pickT rfl rfl rfl (WL.move rfl rfl (WL.want rfl rfl rfl (WL.fieldAddr (fld_23_1) rfl rfl (WL.want rfl rfl rfl (WL.loadB Tryd.isAgg3 hb_1 rfl rfl rfl (WL.want rfl rfl rfl (?_)))))))
      refine WL.geq? rfl rfl rfl (fun h14 => ?_) (fun h14 => ?_)
      ·
        refine WL.pickT rfl rfl rfl (WL.move rfl rfl (WL.want rfl rfl rfl (WL.fieldAddr (fld_23_1) rfl rfl (WL.want rfl rfl rfl (WL.loadB Tryd.isAgg3 hb_1 rfl rfl rfl (WL.want rfl rfl rfl (?_)))))))
        refine WL.leq? rfl rfl rfl (fun h19 => ?_) (fun h19 => ?_)
        ·
          refine WL.pickT rfl rfl rfl (WL.move rfl rfl (WL.want rfl rfl rfl (WL.fieldAddr (fld_23_3) rfl rfl (WL.want rfl rfl rfl (WL.loadB Tryd.isAgg9 hb_1 rfl rfl rfl (WL.want rfl rfl rfl (WL.lens Tryd.underlying9 rfl rfl (?_))))))))
          refine WL.want rfl rfl rfl (WL.eql rfl rfl rfl (WL.pickT rfl rfl rfl (WL.assign rfl rfl (WL.nil (WX.then_normal (WC.ret (?_)))))))
          refine WX.ret1 (.inl rfl) Tryd.results59 rfl ?_
          refine ⟨_, rfl, ?_, kk⟩
          first
            | exact congrArg Value.bool (decide_eq_decide.2 (by unfold rightP; omega))
            | (refine congrArg Value.bool (Eq.symm (decide_eq_false ?_)); unfold rightP; omega)
        ·
          refine WL.pickT rfl rfl rfl (WL.move rfl rfl (WL.pass rfl rfl rfl rfl (WL.pass rfl rfl rfl rfl (WL.pass rfl rfl rfl rfl (WL.pass rfl rfl rfl rfl (WL.pickF rfl rfl rfl (WL.assign rfl rfl (?_))))))))
          refine WL.nil (WX.then_normal (WC.ret (?_)))
          refine WX.ret1 (.inl rfl) Tryd.results59 rfl ?_
          refine ⟨_, rfl, ?_, kk⟩
          first
            | exact congrArg Value.bool (decide_eq_decide.2 (by unfold rightP; omega))
            | (refine congrArg Value.bool (Eq.symm (decide_eq_false ?_)); unfold rightP; omega)
      ·
        refine WL.pickT rfl rfl rfl (WL.move rfl rfl (WL.pass rfl rfl rfl rfl (WL.pass rfl rfl rfl rfl (WL.pass rfl rfl rfl rfl (WL.pickF rfl rfl rfl (WL.move rfl rfl (WL.pass rfl rfl rfl rfl (?_))))))))
        refine WL.pass rfl rfl rfl rfl (WL.pass rfl rfl rfl rfl (WL.pass rfl rfl rfl rfl (WL.pickF rfl rfl rfl (WL.assign rfl rfl (WL.nil (WX.then_normal (WC.ret (?_))))))))
        refine WX.ret1 (.inl rfl) Tryd.results59 rfl ?_
        refine ⟨_, rfl, ?_, kk⟩
        first
          | exact congrArg Value.bool (decide_eq_decide.2 (by unfold rightP; omega))
          | (refine congrArg Value.bool (Eq.symm (decide_eq_false ?_)); unfold rightP; omega)
    ·
      refine WL.pickT rfl rfl rfl (WL.move rfl rfl (WL.pass rfl rfl rfl rfl (WL.pass rfl rfl rfl rfl (WL.pass rfl rfl rfl rfl (WL.pickF rfl rfl rfl (WL.move rfl rfl (WL.pass rfl rfl rfl rfl (?_))))))))
      refine WL.pass rfl rfl rfl rfl (WL.pass rfl rfl rfl rfl (WL.pickF rfl rfl rfl (WL.move rfl rfl (WL.pass rfl rfl rfl rfl (WL.pass rfl rfl rfl rfl (WL.pass rfl rfl rfl rfl (WL.pass rfl rfl rfl rfl (?_))))))))
      refine WL.pickF rfl rfl rfl (WL.assign rfl rfl (WL.nil (WX.then_normal (WC.ret (?_)))))
      refine WX.ret1 (.inl rfl) Tryd.results59 rfl ?_
      refine ⟨_, rfl, ?_, kk⟩
      first
        | exact congrArg Value.bool (decide_eq_decide.2 (by unfold rightP; omega))
        | (refine congrArg Value.bool (Eq.symm (decide_eq_false ?_)); unfold rightP; omega)
  ·
    refine WL.move rfl rfl (WL.pass rfl rfl rfl rfl (WL.pass rfl rfl rfl rfl (WL.pass rfl rfl rfl rfl (WL.pickF rfl rfl rfl (WL.move rfl rfl (WL.pass rfl rfl rfl rfl (WL.pass rfl rfl rfl rfl (?_))))))))
    refine WL.pass rfl rfl rfl rfl (WL.pickF rfl rfl rfl (WL.move rfl rfl (WL.pass rfl rfl rfl rfl (WL.pass rfl rfl rfl rfl (WL.pass rfl rfl rfl rfl (WL.pickF rfl rfl rfl (WL.move rfl rfl (?_))))))))
    refine WL.pass rfl rfl rfl rfl (WL.pass rfl rfl rfl rfl (WL.pass rfl rfl rfl rfl (WL.pass rfl rfl rfl rfl (WL.pickF rfl rfl rfl (WL.assign rfl rfl (WL.nil (WX.then_normal (?_))))))))
    refine WC.ret (?_)
    refine WX.ret1 (.inl rfl) Tryd.results59 rfl ?_
    refine ⟨_, rfl, ?_, kk⟩
    first
      | exact congrArg Value.bool (decide_eq_decide.2 (by unfold rightP; omega))
      | (refine congrArg Value.bool (Eq.symm (decide_eq_false ?_)); unfold rightP; omega)
theorem items_calls (p : PtrV) (w : World) : Calls Tryd.prog 61 [.agg (ept.f p).toArray].toArray w (Ret fun v w' => (∃ (ao : Option Addr) (c : Nat), v = .slice ao (pit p).length c ∧ RSl (fun _ => True) w' eit ao c (pit p)) ∧ Chg Nob w w') := by
  have kk := Chg.refl Nob w
  refine Calls.of_WC Tryd.func61 rfl Tryd.ntmps61 (by simp) ?_
  refine WC.seq (WC.region (?_))
  refine WL.box rfl rfl ?_
  intro g_1 w_1 hge_1 hlt_1 hb_1 k_1
  have zs_k_1 := k_1.size
  replace kk := kk.pure k_1
  refine WL.assign rfl rfl (WL.nil (WX.then_normal (WC.seq (WC.region (WL.fieldAddr (fld_23_0) rfl rfl (WL.loadB Tryd.isAgg3 hb_1 rfl rfl rfl (WL.bld rfl (bld_75_0_1 _ _) rfl (?_))))))))
  refine WL.fieldAddr (fld_23_1) rfl rfl (WL.loadB Tryd.isAgg3 hb_1 rfl rfl rfl (WL.bld rfl (bld_75_0_1 _ _) rfl (WL.fieldAddr (fld_23_2) rfl rfl (WL.loadB Tryd.isAgg3 hb_1 rfl rfl rfl (WL.bld rfl (bld_75_0_1 _ _) rfl (WL.fieldAddr (fld_23_3) rfl rfl (WL.loadB Tryd.isAgg9 hb_1 rfl rfl rfl (?_))))))))
  refine WL.bld rfl (bld_75_0_2 _ _) rfl (?_)
  refine WL.build (e := eit) [⟨1, p.a, ⟨#[]⟩⟩, ⟨1, p.z, ⟨#[]⟩⟩, ⟨1, p.b, ⟨#[]⟩⟩, ⟨2, 0, p.s⟩] Tryd.underlying76 Tryd.sizeOf75 Tryd.zeroValue75 rfl rfl rfl (by simp [Value.cells] <;> rfl) (by decide) rfl ?_
  intro a_ha w_ha ha l_ha z_ha k_ha
  have zs_k_ha := k_ha.size
  replace kk := kk.pure k_ha
  replace hb_1 := hb_1.pure k_ha
  refine WL.assign rfl rfl (WL.nil (WX.then_normal (WC.ret (?_))))
  refine WX.ret1 (.inl rfl) Tryd.results61 rfl ?_
  exact ⟨_, rfl, ⟨_, _, rfl, ha.rsl.mono fun _ _ => trivial⟩, kk⟩
theorem docPtr_calls (p : PtrV) (w : World) (hw : WfP p) : Calls Tryd.prog 34 [.agg (ept.f p).toArray].toArray w (Ret fun v w' => v = .tuple #[.string (ptrS p), vi (ptrE p)] ∧ Chg Nob w w') := by
  have kk := Chg.refl Nob w
  refine Calls.of_WC Tryd.func34 rfl Tryd.ntmps34 (by simp) ?_
  refine WC.seq (WC.region (?_))
  refine WL.box rfl rfl ?_
  intro g_1 w_1 hge_1 hlt_1 hb_1 k_1
  have zs_k_1 := k_1.size
  replace kk := kk.pure k_1
  refine WL.assign rfl rfl (WL.assign rfl rfl (WL.nil (WX.then_normal (WC.seq (WC.seq (WC.region (WL.loadsB Tryd.isAgg23 Tryd.sizeOf23 hb_1 rfl (by rfl) rfl (?_))))))))
  refine WL.call eg_59 rfl rfl (rightPtr_calls p _) ?_
  rintro v w1 ⟨rfl, k1⟩
  have zs_k1 := k1.size
  replace kk := kk.pure k1
  replace hb_1 := hb_1.pure k1
  by_cases hr : rightP p
  ·
    rw [decide_eq_true hr]
    refine WL.not rfl rfl (WL.nil (WX.then_normal (WC.cond_false rfl (WC.skip (WX.then_normal (WC.seq (WC.region (?_))))))))
    refine WL.loadsB Tryd.isAgg23 Tryd.sizeOf23 hb_1 rfl (by rfl) rfl (?_)
    refine WL.call eg_61 rfl rfl (items_calls p _) ?_
    rintro v w1 ⟨⟨ax, cx, rfl, hx⟩, k1⟩
    have zs_k1 := k1.size
    replace kk := kk.pure k1
    replace hb_1 := hb_1.pure k1
    have hx2 := hx.old
    refine WL.call eg_60 rfl rfl (rencode_calls hx2 (by simp [pit]) (fun i hi => ⟨(pit_good hr hw i hi).1, (pit_good hr hw i hi).2.1⟩) (fun i hi => (pit_good hr hw i hi).2.2)) ?_
    rintro v w1 ⟨rfl, k1⟩
    have zs_k1 := k1.size
    replace kk := kk.pure k1
    replace hb_1 := hb_1.pure k1
    refine WL.assign rfl rfl (WL.assign rfl rfl (WL.nil (WX.then_normal (WC.ret (?_)))))
    refine WX.ret2 (.inl rfl) Tryd.results34 rfl rfl ?_
    refine ⟨_, rfl, ?_, kk⟩
    first
      | (rw [ptrS, ptrE, if_neg hr, if_neg hr]; done)
      | (rw [ptrS, ptrE, if_pos hr, if_pos hr])
  ·
    rw [decide_eq_false hr]
    refine WL.not rfl rfl (WL.nil (WX.then_normal (WC.cond_true rfl (WC.seq (WC.region (WL.assign rfl rfl (WL.assign rfl rfl (?_))))))))
    refine WL.nil (WX.then_normal (WC.ret (WX.then_ret (?_))))
    refine WX.ret2 (.inl rfl) Tryd.results34 rfl rfl ?_
    refine ⟨_, rfl, ?_, kk⟩
    first
      | (rw [ptrS, ptrE, if_neg hr, if_neg hr]; done)
      | (rw [ptrS, ptrE, if_pos hr, if_pos hr])
end Go.Proofs.YtjeldcjchipdgaaDoor
