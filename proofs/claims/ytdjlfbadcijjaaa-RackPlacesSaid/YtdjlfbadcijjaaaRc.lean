import Derived.Test.YtdjlfbadcijjaaaRb
namespace Go.Proofs.Ytdjlfbadcijjaaa
open Go.RowKit Go.HL

/-! plain: the last of those with a place -/
section
variable {K V : Type} [DecidableEq K]
theorem mget_app (l1 l2 : List (K × V)) (k : K) : mget (l1 ++ l2) k = match mget l1 k with | some v => some v | none => mget l2 k := by
  induction l1 with
  | nil => rfl
  | cons p r ih =>
    obtain ⟨k', v⟩ := p
    simp only [List.cons_append, mget]
    by_cases h : k = k'
    · simp [h]
    · simp [h, ih]
theorem mget_no {l : List (K × V)} {k : K} (h : ∀ x ∈ l, x.1 ≠ k) : mget l k = none := by
  induction l with
  | nil => rfl
  | cons p r ih =>
    obtain ⟨k', v⟩ := p
    have h1 := h (k', v) (by simp)
    simp only [mget]
    rw [if_neg (fun e => h1 e.symm)]
    exact ih (fun x hx => h x (List.mem_cons_of_mem _ hx))
theorem mget_mem {l : List (K × V)} {k : K} {v : V} (h : mget l k = some v) : (k, v) ∈ l := by
  induction l with
  | nil => cases h
  | cons p r ih =>
    obtain ⟨k', u⟩ := p
    simp only [mget] at h
    by_cases e : k = k'
    · subst e
      simp at h
      simp [h]
    · rw [if_neg e] at h
      exact List.mem_cons_of_mem _ (ih h)
/-- of those with a place the last -/
def newV (ws : List (K × V)) (p : K) : Option V := mget ws.reverse p
theorem newV_none {ws : List (K × V)} {p : K} (h : ∀ x ∈ ws, x.1 ≠ p) : newV ws p = none := mget_no (fun x hx => h x (List.mem_reverse.1 hx))
omit [DecidableEq K] in
theorem split_at {ws : List (K × V)} {j : Nat} {x : K × V} (hx : ws[j]? = some x) : ws = ws.take j ++ [x] ++ ws.drop (j + 1) := by
  obtain ⟨hj, e⟩ := List.getElem?_eq_some_iff.1 hx
  rw [← e, List.append_assoc]
  simp
omit [DecidableEq K] in
theorem later_no {ws : List (K × V)} {p : K} {j : Nat} (h : ∀ k y, j < k → ws[k]? = some y → y.1 ≠ p) : ∀ x ∈ (ws.drop (j + 1)).reverse, x.1 ≠ p := by
  intro x hx
  obtain ⟨i, hi, rfl⟩ := List.getElem_of_mem (List.mem_reverse.1 hx)
  refine h (j + 1 + i) _ (by omega) ?_
  rw [← List.getElem?_drop]
  exact List.getElem?_eq_getElem hi
theorem newV_some {ws : List (K × V)} {p : K} {j : Nat} {x : K × V} (hx : ws[j]? = some x) (hp : x.1 = p) (h : ∀ k y, j < k → ws[k]? = some y → y.1 ≠ p) : newV ws p = some x.2 := by
  obtain ⟨x1, x2⟩ := x
  subst hp
  unfold newV
  rw [split_at hx, List.reverse_append, List.reverse_append, mget_app, mget_no (later_no h)]
  simp [mget]
/-- the last one with a place gets another value -/
def putW (ws : List (K × V)) (p : K) (v : V) : List (K × V) := (mput ws.reverse p v).reverse
theorem mput_app {l1 l2 : List (K × V)} {k : K} (h : ∀ x ∈ l1, x.1 ≠ k) (v : V) : mput (l1 ++ l2) k v = l1 ++ mput l2 k v := by
  induction l1 with
  | nil => rfl
  | cons p r ih =>
    obtain ⟨k', u⟩ := p
    have h1 := h (k', u) (by simp)
    simp only [List.cons_append, mput]
    rw [if_neg (fun e => h1 e.symm), ih (fun x hx => h x (List.mem_cons_of_mem _ hx))]
theorem putW_some {ws : List (K × V)} {p : K} {j : Nat} {x : K × V} (hx : ws[j]? = some x) (hp : x.1 = p) (h : ∀ k y, j < k → ws[k]? = some y → y.1 ≠ p) (v : V) : putW ws p v = ws.set j (p, v) := by
  obtain ⟨x1, x2⟩ := x
  subst hp
  have hj := (List.getElem?_eq_some_iff.1 hx).1
  unfold putW
  conv => lhs; rw [split_at hx]
  rw [List.reverse_append, List.reverse_append, mput_app (later_no h), List.set_eq_take_append_cons_drop, if_pos hj]
  simp [mput]
theorem mput_fst {l : List (K × V)} {k : K} {v : V} : (mput l k v).map (·.1) = if k ∈ l.map (·.1) then l.map (·.1) else l.map (·.1) ++ [k] := by
  induction l with
  | nil => simp [mput]
  | cons p r ih =>
    obtain ⟨k', u⟩ := p
    simp only [mput]
    by_cases h : k = k'
    · simp [h]
    · rw [if_neg h]
      simp only [List.map_cons, ih, List.mem_cons, h, false_or]
      split <;> rfl
theorem mput_nodup {l : List (K × V)} {k : K} {v : V} (h : (l.map (·.1)).Nodup) : ((mput l k v).map (·.1)).Nodup := by
  rw [mput_fst]
  split
  · exact h
  · rename_i h1
    rw [List.nodup_append]
    refine ⟨h, by simp, ?_⟩
    intro a ha b hb e
    simp at hb
    subst hb; subst e
    exact h1 ha
theorem mput_mem {l : List (K × V)} {k : K} {v : V} {x : K × V} (h : x ∈ mput l k v) : x ∈ l ∨ x = (k, v) := by
  induction l with
  | nil => simp [mput] at h; exact .inr h
  | cons p r ih =>
    obtain ⟨k', u⟩ := p
    simp only [mput] at h
    split at h
    · rcases List.mem_cons.1 h with h1 | h1
      · exact .inr h1
      · exact .inl (List.mem_cons_of_mem _ h1)
    · rcases List.mem_cons.1 h with h1 | h1
      · exact .inl (by simp [h1])
      · rcases ih h1 with h2 | h2
        · exact .inl (List.mem_cons_of_mem _ h2)
        · exact .inr h2
end
theorem xsm_get (l : List (Pl × Rw)) (p : Pl) : mget (xsm l) p = (mget l p).map (·.xs) := by
  induction l with
  | nil => rfl
  | cons x r ih =>
    obtain ⟨k', v⟩ := x
    simp only [xsm, List.map_cons, mget] at ih ⊢
    by_cases h : p = k'
    · simp [h]
    · simp [h, ih]
theorem xsm_put (l : List (Pl × Rw)) (p : Pl) (v : Rw) : xsm (mput l p v) = mput (xsm l) p v.xs := by
  induction l with
  | nil => rfl
  | cons x r ih =>
    obtain ⟨k', u⟩ := x
    simp only [xsm, List.map_cons, mput] at ih ⊢
    by_cases h : p = k'
    · simp [h]
    · simp [h, ih]
theorem xsm_rev (l : List (Pl × Rw)) : xsm l.reverse = (xsm l).reverse := by simp [xsm]
theorem xsm_newV (l : List (Pl × Rw)) (p : Pl) : newV (xsm l) p = (newV l p).map (·.xs) := by
  unfold newV
  rw [← xsm_rev, xsm_get]
theorem xsm_putW (l : List (Pl × Rw)) (p : Pl) (v : Rw) : xsm (putW l p v) = putW (xsm l) p v.xs := by
  unfold putW
  rw [← xsm_rev, ← xsm_put, ← xsm_rev]
theorem xsm_len (l : List (Pl × Rw)) : (xsm l).length = l.length := by simp [xsm]
/-- what a sector holds -/
def heldS (s : RA) (p : Pl) : List UInt8 := match newV s.waits p with
  | some b => b
  | none => (mget s.last p).getD (List.replicate 128 0)
theorem heldS_len {s : RA} (h : s.ok) (p : Pl) : (heldS s p).length = 128 := by
  unfold heldS
  cases h1 : newV s.waits p with
  | some b => exact h.lw _ (List.mem_reverse.1 (mget_mem h1))
  | none =>
    cases h2 : mget s.last p with
    | some b => exact h.ll _ (mget_mem h2)
    | none => rfl
/-! what a sector holds -/
theorem held_calls {A : Nat → Prop} {w : World} {R : Nat} {s : RA} (h : RK A w R s) (p : Pl) :
    Calls Try.prog 33 [ptr R, kpl p].toArray w (Ret fun v w' => (∃ r, v = vsl r ∧ RSl (· < w'.heap.size) w' eb r.ao r.cap r.xs ∧ r.xs = heldS s p) ∧ Chg Nob w w') := by
  obtain ⟨m, ga, gc, wa, wc, ws, ls, hB, hI, hls, hws⟩ := h.ex
  have hw := Chg.refl Nob w
  obtain ⟨pd, pa⟩ := p
  refine Calls.of_WC Try.func33 rfl Try.ntmps33 (by simp) ?_
  refine WC.seq (WC.region (?_))
  refine WL.box rfl rfl ?_
  intro g1 w1 hge1 hlt1 hP k1
  replace hP : Blk w1 g1 69 [vi pd, vi pa] := hP
  have zs_k1 := k1.size
  replace hB := hB.pure k1
  replace hI := hI.pure k1
  replace hw := hw.pure k1
  refine WL.assign rfl rfl (WL.nil (WX.then_normal (WC.seq (WC.seq (WC.region (WL.move rfl rfl (WL.loadsB Try.isAgg69 Try.sizeOf69 hP rfl (by first | (simp; done) | (simp; omega) | rfl) rfl (?_))))))))
  refine WL.call eg_34 rfl rfl (newest_calls hB hI.waits (pd, pa)) ?_
  rintro v w2 ⟨⟨ao, rfl, hnew⟩, k2⟩
  have zs_k2 := k2.size
  replace hB := hB.pure k2
  replace hI := hI.pure k2
  replace hw := hw.pure k2
  replace hP := hP.pure k2
  refine WL.assign rfl rfl (WL.nil (WX.then_normal (WC.seq (WC.region (WL.move rfl rfl (?_))))))
  refine WL.ptrSome Try.underlying74 rfl rfl rfl ?_
  rcases hnew with ⟨rfl, hno⟩ | ⟨j, x, g, hx, hxp, hno, rfl, rfl⟩
  ·
    refine WL.nil (WX.then_normal (WC.cond_false rfl (WC.skip (WX.then_normal (WC.seq (WC.seq (?_)))))))
    refine WC.draw (Nob) [0, 1, 2, 3, 4, 5, 6, 7, 8, 9, 10] [] mixed rfl rfl (fun wd_1 kd_1 zd_1 => ?_)
    have zs_kd_1 := kd_1.size
    replace hB := hB.pure kd_1
    replace hI := hI.pure kd_1
    replace hw := hw.pure kd_1
    replace hP := hP.pure kd_1
    apply DQ.step (E' := [(0, _)])
    case ho => rfl
    case hs => exact ⟨rfl, trivial⟩
    case hk => rfl
    case h1 =>
      intro wq_2 kq_2
      refine WL.move rfl rfl (?_)
      refine WL.nil ?_
      exact WX.one ⟨rfl, by first | exact Chg.refl _ _ | assumption⟩
    apply DQ.step (E' := [(18, _)])
    case ho => rfl
    case hs => exact ⟨rfl, trivial⟩
    case hk => rfl
    case h1 =>
      intro wq_3 kq_3
      refine WL.nilCheck rfl rfl (?_)
      refine WL.nil ?_
      exact WX.one ⟨rfl, by first | exact Chg.refl _ _ | assumption⟩
    apply DQ.step (E' := [(19, _)])
    case ho => rfl
    case hs => exact ⟨rfl, trivial⟩
    case hk => rfl
    case h1 =>
      intro wq_4 kq_4
      refine WL.fieldAddr (fld_66_2) rfl rfl (?_)
      refine WL.nil ?_
      exact WX.one ⟨rfl, by first | exact Chg.refl _ _ | assumption⟩
    apply DQ.step (E' := [(20, _)])
    case ho => rfl
    case hs => exact ⟨rfl, trivial⟩
    case hk => rfl
    case h1 =>
      intro wq_5 kq_5
      have zs_kq_5 := kq_5.size
      replace hB := hB.pure kq_5
      replace hI := hI.pure kq_5
      replace hw := hw.pure kq_5
      replace hP := hP.pure kq_5
      refine WL.loadB Try.isAgg63 hB rfl rfl rfl (?_)
      refine WL.nil ?_
      exact WX.one ⟨rfl, by first | exact Chg.refl _ _ | assumption⟩
    apply DQ.step (E' := [(3, _)])
    case ho => rfl
    case hs => exact ⟨rfl, trivial⟩
    case hk => rfl
    case h1 =>
      intro wq_6 kq_6
      have zs_kq_6 := kq_6.size
      replace hB := hB.pure kq_6
      replace hI := hI.pure kq_6
      replace hw := hw.pure kq_6
      replace hP := hP.pure kq_6
      refine WL.loadsB Try.isAgg69 Try.sizeOf69 hP rfl (by first | (simp; done) | (simp; omega) | rfl) rfl (?_)
      refine WL.nil ?_
      exact WX.one ⟨rfl, by first | exact Chg.refl _ _ | assumption⟩
    apply DQ.step (E' := [(21, _), (22, _)])
    case ho => rfl
    case hs => exact ⟨rfl, rfl, trivial⟩
    case hk => rfl
    case h1 =>
      intro wq_7 kq_7
      have zs_kq_7 := kq_7.size
      replace hB := hB.pure kq_7
      replace hI := hI.pure kq_7
      replace hw := hw.pure kq_7
      replace hP := hP.pure kq_7
      refine WL.mlookup plOk Try.underlying63 Try.zeroValue30 hI.map rfl (show _ = some (kpl (pd, pa)) from rfl) rfl ?_
      rw [show (mget ls (pd, pa)).isSome = decide ((mget ls (pd, pa)).isSome = true) from by simp]
      refine WL.nil ?_
      exact WX.one ⟨rfl, by first | exact Chg.refl _ _ | assumption⟩
    apply DQ.step (E' := [(23, _)])
    case ho => rfl
    case hs => exact ⟨rfl, trivial⟩
    case hk => rfl
    case h1 =>
      intro wq_8 kq_8
      refine WL.move rfl rfl (?_)
      refine WL.nil ?_
      exact WX.one ⟨rfl, by first | exact Chg.refl _ _ | assumption⟩
    apply DQ.step (E' := [(17, _)])
    case ho => rfl
    case hs => exact ⟨rfl, trivial⟩
    case hk => rfl
    case h1 =>
      intro wq_9 kq_9
      refine WL.extract rfl rfl rfl (?_)
      refine WL.nil ?_
      exact WX.one ⟨rfl, by first | exact Chg.refl _ _ | assumption⟩
    apply DQ.step (E' := [(17, _)])
    case ho => rfl
    case hs => exact ⟨rfl, trivial⟩
    case hk => rfl
    case h1 =>
      intro wq_10 kq_10
      refine WL.extract rfl rfl rfl (?_)
      refine WL.nil ?_
      exact WX.one ⟨rfl, by first | exact Chg.refl _ _ | assumption⟩
    apply DQ.step (E' := [(24, _)])
    case ho => rfl
    case hs => exact ⟨rfl, trivial⟩
    case hk => rfl
    case h1 =>
      intro wq_11 kq_11
      refine WL.assign rfl rfl (?_)
      refine WL.nil ?_
      exact WX.one ⟨rfl, by first | exact Chg.refl _ _ | assumption⟩
    apply DQ.step (E' := [(25, _)])
    case ho => rfl
    case hs => exact ⟨rfl, trivial⟩
    case hk => rfl
    case h1 =>
      intro wq_12 kq_12
      refine WL.assign rfl rfl (?_)
      refine WL.nil ?_
      exact WX.one ⟨rfl, by first | exact Chg.refl _ _ | assumption⟩
    refine DQ.done (fun _ => ?_)
    refine DL.done (fun we_13 ke_13 => ?_)
    have zs_ke_13 := ke_13.size
    replace hB := hB.pure ke_13
    replace hI := hI.pure ke_13
    replace hw := hw.pure ke_13
    replace hP := hP.pure ke_13
    refine WX.then_normal (WC.seq (WC.region (WL.move rfl rfl (WL.nil (WX.then_normal (?_))))))
    first | refine WC.cond_dec rfl (fun hc26 => ?_) (fun hc26 => ?_) | refine WC.cond_split rfl (fun hc26 => ?_) (fun hc26 => ?_)
    ·
      refine WC.seq (WC.region (WL.move rfl rfl (WL.assign rfl rfl (WL.nil (WX.then_normal (WC.ret (WX.then_ret (?_))))))))
      refine WX.ret1 (.inl rfl) Try.results33 rfl ?_
      first
        | exact ⟨_, rfl, ⟨x.2, rfl, (hI.byw x (List.mem_of_getElem? hx)).rsl.old, by rw [heldS, hws, xsm_newV, newV_some hx hxp hno]; rfl⟩, hw⟩
        | (obtain ⟨r, hr⟩ := Option.isSome_iff_exists.1 hc26
           simp only [hr]
           exact ⟨_, rfl, ⟨r, rfl, (hI.byl _ (mget_mem hr)).rsl.old, by rw [heldS, hws, xsm_newV, newV_none hno, hls, xsm_get, hr]; rfl⟩, hw⟩)
        | (have hr : mget ls (pd, pa) = none := by simpa using hc26
           exact ⟨_, rfl, ⟨⟨some ⟨g3, 0, none⟩, 128, List.replicate 128 0⟩, rfl, hm.rsl.old, by rw [heldS, hws, xsm_newV, newV_none hno, hls, xsm_get, hr]; rfl⟩, hw⟩)
    ·
      refine WC.skip (WX.then_normal (WC.seq (WC.region (?_))))
      refine WL.make (e := eb) (0 : UInt8) 128 128 Try.underlying30 info_5 rfl rfl rfl ⟨rfl, rfl, Nat.le_refl _⟩ (by decide) rfl ?_
      intro g3 w3 hm k3 z3 eg3
      have zs_k3 := k3.size
      replace hB := hB.pure k3
      replace hI := hI.pure k3
      replace hw := hw.pure k3
      replace hP := hP.pure k3
      refine WL.assign rfl rfl (WL.nil (WX.then_normal (WC.ret (?_))))
      refine WX.ret1 (.inl rfl) Try.results33 rfl ?_
      first
        | exact ⟨_, rfl, ⟨x.2, rfl, (hI.byw x (List.mem_of_getElem? hx)).rsl.old, by rw [heldS, hws, xsm_newV, newV_some hx hxp hno]; rfl⟩, hw⟩
        | (obtain ⟨r, hr⟩ := Option.isSome_iff_exists.1 hc26
           simp only [hr]
           exact ⟨_, rfl, ⟨r, rfl, (hI.byl _ (mget_mem hr)).rsl.old, by rw [heldS, hws, xsm_newV, newV_none hno, hls, xsm_get, hr]; rfl⟩, hw⟩)
        | (have hr : mget ls (pd, pa) = none := by simpa using hc26
           exact ⟨_, rfl, ⟨⟨some ⟨g3, 0, none⟩, 128, List.replicate 128 0⟩, rfl, hm.rsl.old, by rw [heldS, hws, xsm_newV, newV_none hno, hls, xsm_get, hr]; rfl⟩, hw⟩)
  ·
    refine WL.nil (WX.then_normal (WC.cond_true rfl (WC.seq (WC.region (WL.move rfl rfl (WL.nilCheck rfl rfl (WL.fieldAddr (fld_72_1) rfl rfl (?_))))))))
    refine WL.load Try.isAgg30 rfl (hI.waits.rsl.cellsAt hx 2 _ rfl) rfl ?_
    refine WL.assign rfl rfl (WL.nil (WX.then_normal (WC.ret (WX.then_ret (?_)))))
    refine WX.ret1 (.inl rfl) Try.results33 rfl ?_
    first
      | exact ⟨_, rfl, ⟨x.2, rfl, (hI.byw x (List.mem_of_getElem? hx)).rsl.old, by rw [heldS, hws, xsm_newV, newV_some hx hxp hno]; rfl⟩, hw⟩
      | (obtain ⟨r, hr⟩ := Option.isSome_iff_exists.1 hc26
         simp only [hr]
         exact ⟨_, rfl, ⟨r, rfl, (hI.byl _ (mget_mem hr)).rsl.old, by rw [heldS, hws, xsm_newV, newV_none hno, hls, xsm_get, hr]; rfl⟩, hw⟩)
      | (have hr : mget ls (pd, pa) = none := by simpa using hc26
         exact ⟨_, rfl, ⟨⟨some ⟨g3, 0, none⟩, 128, List.replicate 128 0⟩, rfl, hm.rsl.old, by rw [heldS, hws, xsm_newV, newV_none hno, hls, xsm_get, hr]; rfl⟩, hw⟩)
/-! bytes of one's own -/
theorem clone_calls {S : Nat → Prop} {w : World} {ao : Option Addr} {c : Nat} {b : List UInt8} (hr : RSl S w eb ao c b) (hl : b.length = 128) :
    Calls Try.prog 32 [.slice ao b.length c].toArray w (Ret fun v w' => (∃ (g c' : Nat), v = .slice (some ⟨g, 0, none⟩) b.length c' ∧ Row (· = g) w' 5 eb (some ⟨g, 0, none⟩) c' b ∧ w.heap.size ≤ g ∧ g < w'.heap.size) ∧ Chg Nob w w') := by
  replace hr := hr.old
  have hw := Chg.refl Nob w
  have hlt := hr.lt
  refine Calls.of_WC Try.func32 rfl Try.ntmps32 (by simp) ?_
  refine WC.seq (WC.region (WL.assign rfl rfl (WL.nil (WX.then_normal (WC.seq (WC.seq (WC.region (?_))))))))
  refine WL.move rfl rfl (?_)
  refine WL.isNil? Try.underlying30 rfl rfl rfl (fun h4 => ?_) (fun h4 => ?_)
  ·
    subst h4
    have hn := hr.none_nil
    rw [hn] at hl
    cases hl
  ·
    refine WL.nil (WX.then_normal (WC.cond_false rfl (WC.skip (WX.then_normal (WC.seq (WC.region (?_)))))))
    refine WL.build (e := eb) [] Try.underlying30 Try.sizeOf5 Try.zeroValue5 rfl rfl rfl (by first | (simp [Value.cells]; done) | (simp [Value.cells] <;> rfl) | (simp [Value.cells, eb, ei, es, ebool, e32, e64]; done)) (by decide) rfl ?_
    intro a_hq w_hq hq l_hq z_hq k_hq
    have zs_k_hq := k_hq.size
    replace hr := hr.pure k_hq
    replace hw := hw.pure k_hq
    refine WL.move rfl rfl (?_)
    refine WL.append0 (e := eb) info_5 rfl Try.underlying30 rfl rfl hq (hr.src Try.underlying30) (by omega) (by constructor <;> omega) rfl ?_
    intro g2 c2 w2 hb2 k2 eg2 z2
    have zs_k2 := k2.size
    replace hr := hr.pure k2
    replace hw := hw.pure k2
    refine WL.assign rfl rfl (WL.nil (WX.then_normal (WC.ret (?_))))
    refine WX.ret1 (.inl rfl) Try.results32 rfl ?_
    exact ⟨_, rfl, ⟨g2, c2, rfl, hb2, by omega, by omega⟩, hw⟩
end Go.Proofs.Ytdjlfbadcijjaaa
