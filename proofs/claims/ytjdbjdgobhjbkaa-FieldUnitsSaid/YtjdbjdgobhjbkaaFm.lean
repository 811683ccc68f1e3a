import Derived.Test.YtjdbjdgobhjbkaaFl
namespace Go.HL
open Go.RowKit
/-! two places of a list change -/
def sg (a b i : Nat) : Nat := if i = a then b else if i = b then a else i
theorem sg_sg (a b i : Nat) : sg a b (sg a b i) = i := by
  unfold sg
  by_cases e1 : i = a
  · rw [if_pos e1]
    by_cases e2 : b = a
    · rw [if_pos e2]; omega
    · rw [if_neg e2, if_pos rfl]; omega
  · rw [if_neg e1]
    by_cases e2 : i = b
    · rw [if_pos e2, if_pos rfl]; omega
    · rw [if_neg e2, if_neg e1, if_neg e2]
theorem sg_inj {a b i j : Nat} (h : sg a b i = sg a b j) : i = j := by
  rw [← sg_sg a b i, h, sg_sg]
theorem swap_get {α : Type} {l : List α} {a b : Nat} {x y : α} (ha : l[a]? = some x) (hb : l[b]? = some y) (i : Nat) : ((l.set a y).set b x)[i]? = l[sg a b i]? := by
  have hal := (List.getElem?_eq_some_iff.1 ha).1
  have hbl := (List.getElem?_eq_some_iff.1 hb).1
  rw [List.getElem?_set, List.length_set, List.getElem?_set]
  unfold sg
  by_cases e1 : b = i
  · subst e1
    rw [if_pos rfl, if_pos hbl]
    by_cases e2 : b = a
    · subst e2; rw [if_pos rfl]; exact ha.symm
    · rw [if_neg e2, if_pos rfl]; exact ha.symm
  · rw [if_neg e1]
    by_cases e2 : a = i
    · subst e2; rw [if_pos rfl, if_pos hal, if_pos rfl]; exact hb.symm
    · rw [if_neg e2, if_neg (fun e => e2 e.symm), if_neg (fun e => e1 e.symm)]
section
variable {L N n1 : Nat} {w w' : World} {T U : TypeId} {ao : Option Addr} {c : Nat} {gs : List Nat} {rs : List Rw} {M : Nat → Prop}
theorem AR.chgN (h : AR L N n1 w T U ao c gs rs) (k : Chg M w w') (hd : ∀ x, L ≤ x ∨ N ≤ x → M x → False) : AR L N n1 w' T U ao c gs rs :=
  ⟨h.outer.chg k (fun b _ hs hm => hd b (.inr hs.1) hm), fun i g r hg hr => by
    obtain ⟨h1, h2, h3, h4⟩ := h.inner i g r hg hr
    exact ⟨h1, h2.chg k (fun b _ hs hm => hd b (.inl (by have h5 : b = g := hs; have := h.low i g hg; omega)) hm), h3, h4⟩, h.len, h.apart, h.low⟩
theorem AR.up (h : AR L N n1 w T U ao c gs rs) {n2 : Nat} (hn : n1 ≤ n2) : AR L N n2 w T U ao c gs rs :=
  ⟨h.outer.mono (fun b hb => ⟨hb.1, by have := hb.2; omega⟩), fun i g r hg hr => by
    obtain ⟨h1, h2, h3, h4⟩ := h.inner i g r hg hr
    exact ⟨h1, h2, by omega, h4⟩, h.len, h.apart, h.low⟩
theorem AR.swap (h : AR L N n1 w T U ao c gs rs) {a b ga gb : Nat} {ra rb : Rw} (hga : gs[a]? = some ga) (hgb : gs[b]? = some gb) (hra : rs[a]? = some ra) (hrb : rs[b]? = some rb) (k : Chg (Eqb ao) w w')
    (ho : Row (fun x => N ≤ x ∧ x < n1) w' T erow ao c ((rs.set a rb).set b ra)) : AR L N n1 w' T U ao c ((gs.set a gb).set b ga) ((rs.set a rb).set b ra) := by
  refine ⟨ho, fun i g r hg hr => ?_, by simp [h.len], fun i j g h1 h2 => ?_, fun i g h1 => ?_⟩
  · rw [swap_get hga hgb] at hg
    rw [swap_get hra hrb] at hr
    obtain ⟨h1, h2, h3, h4⟩ := h.inner _ g r hg hr
    exact ⟨h1, h2.chg k (fun x _ hx hm => h4 (by have e : x = g := hx; rw [← e]; exact hm)), h3, h4⟩
  · rw [swap_get hga hgb] at h1 h2
    exact sg_inj (h.apart _ _ g h1 h2)
  · rw [swap_get hga hgb] at h1
    exact h.low _ g h1
end
def mx (rs : List Rw) : List (List UInt8) := rs.map (·.xs)
theorem mx_at {rs : List Rw} {i : Nat} {r : Rw} (h : rs[i]? = some r) : (mx rs)[i]? = some r.xs := by simp [mx, h]
theorem mx_len (rs : List Rw) : (mx rs).length = rs.length := by simp [mx]
theorem fn_row {m : List (List UInt8)} {i : Nat} {r : Option (List UInt8)} (h : m[i]? = r) (j : Nat) : fn m i j = (r.getD []).getD j 0 := by
  have e : m.getD i [] = r.getD [] := by rw [List.getD_eq_getElem?_getD, h]
  rw [fn, e]
theorem fn_mx {rs : List Rw} {i : Nat} {r : Rw} (h : rs[i]? = some r) (j : Nat) : fn (mx rs) i j = r.xs.getD j 0 := by
  rw [fn_row (mx_at h)]
  rfl
theorem fn_swap {rs : List Rw} {a b : Nat} {ra rb : Rw} (hra : rs[a]? = some ra) (hrb : rs[b]? = some rb) (i j : Nat) : fn (mx ((rs.set a rb).set b ra)) i j = fn (mx rs) (sg a b i) j := by
  have e : (mx ((rs.set a rb).set b ra))[i]? = (mx rs)[sg a b i]? := by
    rw [mx, mx, List.getElem?_map, List.getElem?_map, swap_get hra hrb]
  rw [fn_row e, fn_row rfl]
theorem fn_setr {rs : List Rw} {k : Nat} (hk : k < rs.length) (q : Rw) (i j : Nat) : fn (mx (rs.set k q)) i j = if i = k then q.xs.getD j 0 else fn (mx rs) i j := by
  have e : mx (rs.set k q) = (mx rs).set k q.xs := by rw [mx, mx, List.map_set]
  rw [e, fn_set (by rw [mx_len]; exact hk)]
end Go.HL
namespace Go.Proofs.Ytjdbjdgobhjbkaa
open Go.RowKit Go.HL

theorem invR_calls {w : World} {g : Nat} (hR : Blk w g 65 FR) (a : UInt8) : Calls Try.prog 30 [.pointer (some ⟨g, 0, none⟩), v8 a].toArray w (Ret fun v w' => v = .tuple #[v8 (inv a), vi (if a = 0 then 1 else 0)] ∧ Chg Nob w w') := by
  have hw := Chg.refl Nob w
  have hla := L_lt a
  refine Calls.of_WC Try.func30 rfl Try.ntmps30 (by simp) ?_
  refine WC.seq (WC.region (WL.assign rfl rfl (WL.assign rfl rfl (WL.nil (WX.then_normal (WC.seq (WC.seq (?_))))))))
  refine WC.region (WL.move rfl rfl (?_))
  refine WL.eql? rfl rfl rfl (fun h7 => ?_) (fun h7 => ?_)
  ·
    refine WL.nil (WX.then_normal (WC.cond_true rfl (WC.seq (WC.region (WL.assign rfl rfl (WL.assign rfl rfl (WL.nil (?_))))))))
    refine WX.then_normal (WC.ret (WX.then_ret (?_)))
    refine WX.ret2 (.inl rfl) Try.results30 rfl rfl ?_
    first
      | (have ha := u8_zero h7
         subst ha
         exact ⟨_, rfl, rfl, hw⟩)
      | (refine ⟨_, rfl, ?_, hw⟩
         rw [inv, if_neg (u8_ne h7), if_neg (u8_ne h7)])
  ·
    refine WL.nil (WX.then_normal (WC.cond_false rfl (WC.skip (WX.then_normal (WC.seq (WC.region (WL.move rfl rfl (?_))))))))
    refine WL.call eg_29 rfl rfl (readyR_calls hR) ?_
    rintro v w2 ⟨rfl, k⟩
    have zs_k := k.size
    replace hR := hR.pure k
    replace hw := hw.pure k
    refine WL.assign rfl rfl (WL.nil (WX.then_normal (WC.seq (?_))))
    refine WC.draw (Nob) [0, 1, 2, 3, 4, 5, 6, 7, 8, 9, 10, 11, 12, 13] [] mixed rfl rfl (fun wd_1 kd_1 zd_1 => ?_)
    have zs_kd_1 := kd_1.size
    replace hR := hR.pure kd_1
    replace hw := hw.pure kd_1
    apply DQ.step (E' := [(0, _)])
    case ho => rfl
    case hs => exact ⟨rfl, trivial⟩
    case hk => rfl
    case h1 =>
      intro wq_2 kq_2
      refine WL.move rfl rfl (?_)
      refine WL.nil ?_
      exact WX.one ⟨rfl, by first | exact Chg.refl _ _ | assumption⟩
    apply DQ.step (E' := [(0, _)])
    case ho => rfl
    case hs => exact ⟨rfl, trivial⟩
    case hk => rfl
    case h1 =>
      intro wq_3 kq_3
      refine WL.move rfl rfl (?_)
      refine WL.nil ?_
      exact WX.one ⟨rfl, by first | exact Chg.refl _ _ | assumption⟩
    apply DQ.step (E' := [(1, _)])
    case ho => rfl
    case hs => exact ⟨rfl, trivial⟩
    case hk => rfl
    case h1 =>
      intro wq_4 kq_4
      refine WL.move rfl rfl (?_)
      refine WL.nil ?_
      exact WX.one ⟨rfl, by first | exact Chg.refl _ _ | assumption⟩
    apply DQ.step (E' := [(11, _)])
    case ho => rfl
    case hs => exact ⟨rfl, trivial⟩
    case hk => rfl
    case h1 =>
      intro wq_5 kq_5
      refine WL.nilCheck rfl rfl (?_)
      refine WL.nil ?_
      exact WX.one ⟨rfl, by first | exact Chg.refl _ _ | assumption⟩
    apply DQ.step (E' := [(13, _)])
    case ho => rfl
    case hs => exact ⟨rfl, trivial⟩
    case hk => rfl
    case h1 =>
      intro wq_6 kq_6
      refine WL.fieldAddr (fld_65_2) rfl rfl (?_)
      refine WL.nil ?_
      exact WX.one ⟨rfl, by first | exact Chg.refl _ _ | assumption⟩
    apply DQ.step (E' := [(14, _), (12, _)])
    case ho => rfl
    case hs => exact ⟨rfl, rfl, trivial⟩
    case hk => rfl
    case h1 =>
      intro wq_7 kq_7
      have zs_kq_7 := kq_7.size
      replace hR := hR.pure kq_7
      replace hw := hw.pure kq_7
      refine WL.indexArrO a.toNat Try.underlying63 Try.sizeOf3 rfl rfl ⟨rfl, a.toNat_lt⟩ rfl ?_
      refine WL.nil ?_
      exact WX.one ⟨rfl, by first | exact Chg.refl _ _ | assumption⟩
    apply DQ.step (E' := [(15, _)])
    case ho => rfl
    case hs => exact ⟨rfl, trivial⟩
    case hk => rfl
    case h1 =>
      intro wq_8 kq_8
      have zs_kq_8 := kq_8.size
      replace hR := hR.pure kq_8
      replace hw := hw.pure kq_8
      refine WL.loadB Try.isAgg3 hR rfl (FR_l a) rfl ?_
      refine WL.nil ?_
      exact WX.one ⟨rfl, by first | exact Chg.refl _ _ | assumption⟩
    apply DQ.step (E' := [(16, _)])
    case ho => rfl
    case hs => exact ⟨rfl, trivial⟩
    case hk => rfl
    case h1 =>
      intro wq_9 kq_9
      refine WL.sub64 rfl rfl (by first | omega | (constructor <;> omega)) rfl (?_)
      refine WL.nil ?_
      exact WX.one ⟨rfl, by first | exact Chg.refl _ _ | assumption⟩
    apply DQ.step (E' := [(10, _)])
    case ho => rfl
    case hs => exact ⟨rfl, trivial⟩
    case hk => rfl
    case h1 =>
      intro wq_10 kq_10
      refine WL.nilCheck rfl rfl (?_)
      refine WL.nil ?_
      exact WX.one ⟨rfl, by first | exact Chg.refl _ _ | assumption⟩
    apply DQ.step (E' := [(18, _)])
    case ho => rfl
    case hs => exact ⟨rfl, trivial⟩
    case hk => rfl
    case h1 =>
      intro wq_11 kq_11
      refine WL.fieldAddr (fld_65_1) rfl rfl (?_)
      refine WL.nil ?_
      exact WX.one ⟨rfl, by first | exact Chg.refl _ _ | assumption⟩
    apply DQ.step (E' := [(19, _), (17, _)])
    case ho => rfl
    case hs => exact ⟨rfl, rfl, trivial⟩
    case hk => rfl
    case h1 =>
      intro wq_12 kq_12
      have zs_kq_12 := kq_12.size
      replace hR := hR.pure kq_12
      replace hw := hw.pure kq_12
      refine WL.indexArrO (255 - L a) Try.underlying62 Try.sizeOf5 rfl rfl ⟨by omega, by omega⟩ rfl ?_
      refine WL.nil ?_
      exact WX.one ⟨rfl, by first | exact Chg.refl _ _ | assumption⟩
    apply DQ.step (E' := [(20, _)])
    case ho => rfl
    case hs => exact ⟨rfl, trivial⟩
    case hk => rfl
    case h1 =>
      intro wq_13 kq_13
      have zs_kq_13 := kq_13.size
      replace hR := hR.pure kq_13
      replace hw := hw.pure kq_13
      refine WL.loadB Try.isAgg5 hR rfl (FR_e (by omega)) rfl ?_
      refine WL.nil ?_
      exact WX.one ⟨rfl, by first | exact Chg.refl _ _ | assumption⟩
    apply DQ.step (E' := [(21, _)])
    case ho => rfl
    case hs => exact ⟨rfl, trivial⟩
    case hk => rfl
    case h1 =>
      intro wq_14 kq_14
      refine WL.assign rfl rfl (?_)
      refine WL.nil ?_
      exact WX.one ⟨rfl, by first | exact Chg.refl _ _ | assumption⟩
    apply DQ.step (E' := [])
    case ho => rfl
    case hs => exact trivial
    case hk => rfl
    case h1 =>
      intro wq_15 kq_15
      refine WL.assign rfl rfl (?_)
      refine WL.nil ?_
      exact WX.one ⟨rfl, by first | exact Chg.refl _ _ | assumption⟩
    refine DQ.done (fun _ => ?_)
    refine DL.done (fun we_16 ke_16 => ?_)
    have zs_ke_16 := ke_16.size
    replace hR := hR.pure ke_16
    replace hw := hw.pure ke_16
    refine WX.then_normal (WC.ret (?_))
    refine WX.ret2 (.inl rfl) Try.results30 rfl rfl ?_
    first
      | (have ha := u8_zero h7
         subst ha
         exact ⟨_, rfl, rfl, hw⟩)
      | (refine ⟨_, rfl, ?_, hw⟩
         rw [inv, if_neg (u8_ne h7), if_neg (u8_ne h7)])
/-- what the built rows are -/
structure Blt (rs ms : List Rw) (rgt : List UInt8) (i : Nat) : Prop where
  len : ms.length = i
  row : ∀ (j : Nat) (r q : Rw), rs[j]? = some r → ms[j]? = some q → ∃ y, rgt[j]? = some y ∧ q.xs = r.xs ++ [y] ∧ r.xs.length = rs.length
theorem Blt.snoc {rs ms : List Rw} {rgt : List UInt8} {i : Nat} (h : Blt rs ms rgt i) {r q : Rw} {y : UInt8} (hr : rs[i]? = some r) (hy : rgt[i]? = some y) (hq : q.xs = r.xs ++ [y]) (hl : r.xs.length = rs.length) : Blt rs (ms ++ [q]) rgt (i + 1) := by
  refine ⟨by simp [h.len], fun j r' q' h1 h2 => ?_⟩
  rcases get_snoc h2 with h3 | ⟨h3, h4⟩
  · exact h.row j r' q' h1 h3
  · subst h4
    rw [h3, h.len, hr] at h1
    injection h1 with h1
    subst h1
    exact ⟨y, by rw [h3, h.len]; exact hy, hq, hl⟩
end Go.Proofs.Ytjdbjdgobhjbkaa
