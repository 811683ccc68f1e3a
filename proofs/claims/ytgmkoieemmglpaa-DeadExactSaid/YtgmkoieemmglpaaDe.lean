import Derived.Test.YtgmkoieemmglpaaDd
namespace Go.Proofs.Ytgmkoieemmglpaa
open Go.RowKit Go.HL

/-! one snapshot less -/
theorem sdelete_calls {S : Nat → Prop} {w : World} {g c : Nat} {xs : List SnV} (hW : Row S w 65 esn (some ⟨g, 0, none⟩) c xs) (i : Nat) (hi : i < xs.length) (hb : xs.length ≤ 5000000000000) :
    Calls Try.prog 31 [.slice (some ⟨g, 0, none⟩) xs.length c, vi (i : Int), vi ((i : Int) + 1)].toArray w (Ret fun v w' => v = .slice (some ⟨g, 0, none⟩) (xs.take i ++ xs.drop (i + 1)).length c ∧ Row S w' 65 esn (some ⟨g, 0, none⟩) c (xs.take i ++ xs.drop (i + 1)) ∧ Chg (· = g) w w') := by
  have hw := Chg.refl (· = g) w
  have hcap := hW.own.cap
  have hl : (xs.take i ++ xs.drop (i + 1)).length = xs.length - 1 := by simp; omega
  have hdl : (xs.drop (i + 1)).length = xs.length - 1 - i := by simp; omega
  have hdt : (xs.take i ++ xs.drop (i + 1) ++ xs.drop (xs.length - 1)).length = xs.length := by simp; omega
  refine Calls.of_WC Try.func31 rfl Try.ntmps31 (by simp) ?_
  refine WC.seq (WC.region (WL.assign rfl rfl (WL.nil (WX.then_normal (WC.seq (WC.region (WL.move rfl rfl (?_))))))))
  refine WL.move rfl rfl (WL.move rfl rfl (WL.move rfl rfl (WL.len Try.underlying31 rfl rfl (?_))))
  refine WL.slice3 (l := i) (h := i + 1) (m := xs.length) Try.underlying31 Try.sizeOf65 rfl rfl rfl rfl (by omega) rfl (fun u => ?_)
  refine WL.nil (WX.then_normal (WC.seq (WC.seq (WC.region (WL.move rfl rfl (WL.move rfl rfl (?_)))))))
  refine WL.eqlF rfl rfl rfl (by first | rfl | omega | decide) ?_
  refine WL.nil (WX.then_normal (WC.cond_false rfl (WC.skip (WX.then_normal (WC.seq (WC.region (WL.move rfl rfl (?_))))))))
  refine WL.len Try.underlying31 rfl rfl (WL.assign rfl rfl (WL.nil (WX.then_normal (WC.seq (?_)))))
  refine WC.draw ((fun x => x = g)) [0, 1, 2, 3, 4, 5] [6, 7] mixed rfl rfl (fun wd_1 kd_1 zd_1 => ?_)
  have zs_kd_1 := kd_1.size
  replace hW := hW.pure kd_1
  replace hw := hw.pure kd_1
  apply DQ.step (E' := [(0, _)])
  case ho => rfl
  case hs => exact ⟨rfl, trivial⟩
  case hk => rfl
  case h1 =>
    intro wq_3 kq_3
    refine WL.move rfl rfl (?_)
    refine WL.nil ?_
    exact WX.one ⟨rfl, by first | exact Chg.refl _ _ | assumption⟩
  apply DQ.step (E' := [(1, _)])
  case ho => rfl
  case hs => exact ⟨rfl, trivial⟩
  case hk => rfl
  case h1 =>
    intro wq_4 kq_4
    refine WL.move rfl rfl (?_)
    refine WL.nil ?_
    exact WX.one ⟨rfl, by first | exact Chg.refl _ _ | assumption⟩
  apply DQ.step (E' := [(20, _), (21, _)])
  case ho => rfl
  case hs => exact ⟨rfl, rfl, trivial⟩
  case hk => rfl
  case h1 =>
    intro wq_5 kq_5
    have zs_kq_5 := kq_5.size
    replace hw := hw.chg kq_5 (by intro x h1 h2; exact h2)
    refine WL.sliceN (l := 0) (h := i) (k := .i64) Try.underlying31 Try.sizeOf65 rfl (.inr ⟨rfl, rfl⟩) (.inl ⟨rfl, by omega⟩) (Nat.zero_le _) rfl ?_
    rw [show cutAt (some (⟨g, 0, none⟩ : Addr)) c 0 2 = some ⟨g, 0, none⟩ from by unfold cutAt; split <;> simp [Addr.add_lit]]
    refine WL.nil ?_
    exact WX.one ⟨rfl, by first | exact Chg.refl _ _ | assumption⟩
  apply DQ.step (E' := [(0, _)])
  case ho => rfl
  case hs => exact ⟨rfl, trivial⟩
  case hk => rfl
  case h1 =>
    intro wq_6 kq_6
    refine WL.move rfl rfl (?_)
    refine WL.nil ?_
    exact WX.one ⟨rfl, by first | exact Chg.refl _ _ | assumption⟩
  apply DQ.step (E' := [(2, _)])
  case ho => rfl
  case hs => exact ⟨rfl, trivial⟩
  case hk => rfl
  case h1 =>
    intro wq_7 kq_7
    refine WL.move rfl rfl (?_)
    refine WL.nil ?_
    exact WX.one ⟨rfl, by first | exact Chg.refl _ _ | assumption⟩
  apply DQ.step (E' := [(23, _), (24, _)])
  case ho => rfl
  case hs => exact ⟨rfl, rfl, trivial⟩
  case hk => rfl
  case h1 =>
    intro wq_8 kq_8
    have zs_kq_8 := kq_8.size
    replace hw := hw.chg kq_8 (by intro x h1 h2; exact h2)
    refine WL.sliceN (l := i + 1) (h := xs.length) (j := .i64) Try.underlying31 Try.sizeOf65 rfl (.inl rfl) (.inr ⟨rfl, rfl⟩) (by omega) rfl ?_
    rw [show xs.length - (i + 1) = (xs.drop (i + 1)).length from by simp]
    refine WL.nil ?_
    exact WX.one ⟨rfl, by first | exact Chg.refl _ _ | assumption⟩
  refine DQ.done (fun hd_2 => ?_)
  refine DL.step [(22, _), (25, _)] rfl ⟨rfl, rfl, trivial⟩ rfl (fun wq_9 kq_9 => ?_)
  have zs_kq_9 := kq_9.size
  replace hW := hW.pure kq_9
  replace hw := hw.pure kq_9
  replace hd_2 := hd_2.pure kq_9
  refine WL.appendRoom (e := esn) (i := i) (ys := xs.drop (i + 1)) info_65 Try.underlying31 (show _ = some (Value.slice (some ⟨g, 0, none⟩) i c) from rfl) rfl hW ((hW.rsl.drop (i + 1) (by omega)).src Try.underlying31) (by omega) rfl ?_
  intro w8 hW8 k8 z8
  rw [show i + (xs.drop (i + 1)).length = xs.length - 1 from by omega] at hW8 ⊢
  have zs_k8 := k8.size
  replace hw := hw.chg k8 (by intro x h1 h2; exact h2)
  replace hd_2 := hd_2.chg k8 (by intro x h1 h2; exact h2)
  refine WL.nil ?_
  refine WX.one ⟨hd_2, ?_⟩
  refine DL.step [(26, _)] rfl ⟨rfl, trivial⟩ rfl (fun wq_10 kq_10 => ?_)
  have zs_kq_10 := kq_10.size
  replace hw := hw.pure kq_10
  replace hd_2 := hd_2.pure kq_10
  replace hW8 := hW8.pure kq_10
  refine WL.assign rfl rfl (?_)
  refine WL.nil ?_
  refine WX.one ⟨hd_2, ?_⟩
  refine DL.done (fun we_11 ke_11 => ?_)
  have zs_ke_11 := ke_11.size
  replace hw := hw.pure ke_11
  replace hd_2 := hd_2.pure ke_11
  replace hW8 := hW8.pure ke_11
  refine WX.then_normal (WC.seq (WC.region (WL.move rfl rfl (WL.move rfl rfl (WL.len Try.underlying31 rfl rfl (WL.move rfl rfl (?_)))))))
  refine WL.sliceN (l := xs.length - 1) (h := xs.length) (k := .i64) (j := .i64) Try.underlying31 Try.sizeOf65 rfl (.inl rfl) (.inl ⟨rfl, by omega⟩) (by omega) rfl ?_
  refine WL.clearTail (e := esn) (i := xs.length - 1) (m := 1) Try.underlying31 Try.zeroValue65 rfl (by simp [Value.cells, Value.oneCell']) hW8 (by rw [hdt]; omega) (by rw [show xs.length - (xs.length - 1) = 1 from by omega]; rfl) ?_
  intro w9 z9 hW9 k9
  rw [show (xs.take i ++ xs.drop (i + 1) ++ xs.drop (xs.length - 1)).take (xs.length - 1) = xs.take i ++ xs.drop (i + 1) from by rw [← hl]; exact List.take_left ..] at hW9
  have zs_k9 := k9.size
  replace hw := hw.chg k9 (by intro x h1 h2; exact h2)
  refine WL.nil (WX.then_normal (WC.seq (WC.region (WL.move rfl rfl (WL.assign rfl rfl (WL.nil (WX.then_normal (?_))))))))
  refine WC.ret (?_)
  refine WX.ret1 (.inl rfl) Try.results31 rfl ?_
  exact ⟨_, rfl, by rw [hl], hW9, hw⟩
end Go.Proofs.Ytgmkoieemmglpaa
