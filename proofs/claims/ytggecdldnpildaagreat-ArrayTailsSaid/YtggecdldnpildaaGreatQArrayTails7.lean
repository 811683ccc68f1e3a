import Derived.Test.YtggecdldnpildaaGreatQArrayTails6
namespace Go.Proofs.YtggecdldnpildaaGreat
open Go.RowKit Go.HL
set_option maxRecDepth 100000

/-! plain: the last of those with a place -/
section
variable {K V : Type} [DecidableEq K]
theorem mget_app (l1 l2 : List (K × V)) (k : K) : mget (l1 ++ l2) k = match mget l1 k with | some v => some v | none => mget l2 k := by
  induction l1 with
  | nil => rfl
  | cons p r ih =>
    obtain ⟨k', v⟩ := p
    simp only [List.cons_append, mget]
    by_cases h : k = k'
    · simp [h]
    · simp [h, ih]
theorem mget_no {l : List (K × V)} {k : K} (h : ∀ x ∈ l, x.1 ≠ k) : mget l k = none := by
  induction l with
  | nil => rfl
  | cons p r ih =>
    obtain ⟨k', v⟩ := p
    have h1 := h (k', v) (by simp)
    simp only [mget]
    rw [if_neg (fun e => h1 e.symm)]
    exact ih (fun x hx => h x (List.mem_cons_of_mem _ hx))
theorem mget_mem {l : List (K × V)} {k : K} {v : V} (h : mget l k = some v) : (k, v) ∈ l := by
  induction l with
  | nil => cases h
  | cons p r ih =>
    obtain ⟨k', u⟩ := p
    simp only [mget] at h
    by_cases e : k = k'
    · subst e
      simp at h
      simp [h]
    · rw [if_neg e] at h
      exact List.mem_cons_of_mem _ (ih h)
/-- of those with a place the last -/
def newV (ws : List (K × V)) (p : K) : Option V := mget ws.reverse p
theorem newV_none {ws : List (K × V)} {p : K} (h : ∀ x ∈ ws, x.1 ≠ p) : newV ws p = none := mget_no (fun x hx => h x (List.mem_reverse.1 hx))
omit [DecidableEq K] in
theorem split_at {ws : List (K × V)} {j : Nat} {x : K × V} (hx : ws[j]? = some x) : ws = ws.take j ++ [x] ++ ws.drop (j + 1) := by
  obtain ⟨hj, e⟩ := List.getElem?_eq_some_iff.1 hx
  rw [← e, List.append_assoc]
  simp
omit [DecidableEq K] in
theorem later_no {ws : List (K × V)} {p : K} {j : Nat} (h : ∀ k y, j < k → ws[k]? = some y → y.1 ≠ p) : ∀ x ∈ (ws.drop (j + 1)).reverse, x.1 ≠ p := by
  intro x hx
  obtain ⟨i, hi, rfl⟩ := List.getElem_of_mem (List.mem_reverse.1 hx)
  refine h (j + 1 + i) _ (by omega) ?_
  rw [← List.getElem?_drop]
  exact List.getElem?_eq_getElem hi
theorem newV_some {ws : List (K × V)} {p : K} {j : Nat} {x : K × V} (hx : ws[j]? = some x) (hp : x.1 = p) (h : ∀ k y, j < k → ws[k]? = some y → y.1 ≠ p) : newV ws p = some x.2 := by
  obtain ⟨x1, x2⟩ := x
  subst hp
  unfold newV
  rw [split_at hx, List.reverse_append, List.reverse_append, mget_app, mget_no (later_no h)]
  simp [mget]
/-- the last one with a place gets another value -/
def putW (ws : List (K × V)) (p : K) (v : V) : List (K × V) := (mput ws.reverse p v).reverse
theorem mput_app {l1 l2 : List (K × V)} {k : K} (h : ∀ x ∈ l1, x.1 ≠ k) (v : V) : mput (l1 ++ l2) k v = l1 ++ mput l2 k v := by
  induction l1 with
  | nil => rfl
  | cons p r ih =>
    obtain ⟨k', u⟩ := p
    have h1 := h (k', u) (by simp)
    simp only [List.cons_append, mput]
    rw [if_neg (fun e => h1 e.symm), ih (fun x hx => h x (List.mem_cons_of_mem _ hx))]
theorem putW_some {ws : List (K × V)} {p : K} {j : Nat} {x : K × V} (hx : ws[j]? = some x) (hp : x.1 = p) (h : ∀ k y, j < k → ws[k]? = some y → y.1 ≠ p) (v : V) : putW ws p v = ws.set j (p, v) := by
  obtain ⟨x1, x2⟩ := x
  subst hp
  have hj := (List.getElem?_eq_some_iff.1 hx).1
  unfold putW
  conv => lhs; rw [split_at hx]
  rw [List.reverse_append, List.reverse_append, mput_app (later_no h), List.set_eq_take_append_cons_drop, if_pos hj]
  simp [mput]
theorem mput_fst {l : List (K × V)} {k : K} {v : V} : (mput l k v).map (·.1) = if k ∈ l.map (·.1) then l.map (·.1) else l.map (·.1) ++ [k] := by
  induction l with
  | nil => simp [mput]
  | cons p r ih =>
    obtain ⟨k', u⟩ := p
    simp only [mput]
    by_cases h : k = k'
    · simp [h]
    · rw [if_neg h]
      simp only [List.map_cons, ih, List.mem_cons, h, false_or]
      split <;> rfl
theorem mput_nodup {l : List (K × V)} {k : K} {v : V} (h : (l.map (·.1)).Nodup) : ((mput l k v).map (·.1)).Nodup := by
  rw [mput_fst]
  split
  · exact h
  · rename_i h1
    rw [List.nodup_append]
    refine ⟨h, by simp, ?_⟩
    intro a ha b hb e
    simp at hb
    subst hb; subst e
    exact h1 ha
theorem mput_mem {l : List (K × V)} {k : K} {v : V} {x : K × V} (h : x ∈ mput l k v) : x ∈ l ∨ x = (k, v) := by
  induction l with
  | nil => simp [mput] at h; exact .inr h
  | cons p r ih =>
    obtain ⟨k', u⟩ := p
    simp only [mput] at h
    split at h
    · rcases List.mem_cons.1 h with h1 | h1
      · exact .inr h1
      · exact .inl (List.mem_cons_of_mem _ h1)
    · rcases List.mem_cons.1 h with h1 | h1
      · exact .inl (by simp [h1])
      · rcases ih h1 with h2 | h2
        · exact .inl (List.mem_cons_of_mem _ h2)
        · exact .inr h2
end
theorem xsm_get (l : List (Pl × Rw)) (p : Pl) : mget (xsm l) p = (mget l p).map (·.xs) := by
  induction l with
  | nil => rfl
  | cons x r ih =>
    obtain ⟨k', v⟩ := x
    simp only [xsm, List.map_cons, mget] at ih ⊢
    by_cases h : p = k'
    · simp [h]
    · simp [h, ih]
theorem xsm_put (l : List (Pl × Rw)) (p : Pl) (v : Rw) : xsm (mput l p v) = mput (xsm l) p v.xs := by
  induction l with
  | nil => rfl
  | cons x r ih =>
    obtain ⟨k', u⟩ := x
    simp only [xsm, List.map_cons, mput] at ih ⊢
    by_cases h : p = k'
    · simp [h]
    · simp [h, ih]
theorem xsm_rev (l : List (Pl × Rw)) : xsm l.reverse = (xsm l).reverse := by simp [xsm]
theorem xsm_newV (l : List (Pl × Rw)) (p : Pl) : newV (xsm l) p = (newV l p).map (·.xs) := by
  unfold newV
  rw [← xsm_rev, xsm_get]
theorem xsm_putW (l : List (Pl × Rw)) (p : Pl) (v : Rw) : xsm (putW l p v) = putW (xsm l) p v.xs := by
  unfold putW
  rw [← xsm_rev, ← xsm_put, ← xsm_rev]
theorem xsm_len (l : List (Pl × Rw)) : (xsm l).length = l.length := by simp [xsm]
/-- what a sector holds -/
def heldS (s : RA) (p : Pl) : List UInt8 := match newV s.waits p with
  | some b => b
  | none => (mget s.last p).getD (List.replicate 128 0)
theorem heldS_len {s : RA} (h : s.ok) (p : Pl) : (heldS s p).length = 128 := by
  unfold heldS
  cases h1 : newV s.waits p with
  | some b => exact h.lw _ (List.mem_reverse.1 (mget_mem h1))
  | none =>
    cases h2 : mget s.last p with
    | some b => exact h.ll _ (mget_mem h2)
    | none => rfl
/-! what a sector holds -/
theorem held_calls {A : Nat → Prop} {w : World} {R : Nat} {s : RA} (h : RK A w R s) (p : Pl) :
    Calls Tryz.prog 58 [ptr R, kpl p].toArray w (Ret fun v w' => (∃ r, v = vsl r ∧ RSl (· < w'.heap.size) w' eb r.ao r.cap r.xs ∧ r.xs = heldS s p) ∧ Chg Nob w w') := by
  obtain ⟨m, ga, gc, wa, wc, ws, ls, hB, hI, hls, hws⟩ := h.ex
  have hw := Chg.refl Nob w
  obtain ⟨pd, pa⟩ := p
  refine Calls.of_WC Tryz.func58 rfl Tryz.ntmps58 (by simp) ?_
  refine WC.seq (WC.region (?_))
  refine WL.box rfl rfl ?_
  intro g1 w1 hge1 hlt1 hP k1
  replace hP : Blk w1 g1 103 [vi pd, vi pa] := hP
  have zs_k1 := k1.size
  replace hB := hB.pure k1
  replace hI := hI.pure k1
  replace hw := hw.pure k1
  refine WL.assign rfl rfl (WL.nil (WX.then_normal (WC.seq (WC.seq (WC.region (WL.move rfl rfl (WL.loadsB Tryz.isAgg103 Tryz.sizeOf103 hP rfl (by simp; done) rfl (?_))))))))
  refine WL.call eg_59 rfl rfl (newest_calls hB hI.waits (pd, pa)) ?_
  rintro v w2 ⟨⟨ao, rfl, hnew⟩, k2⟩
  have zs_k2 := k2.size
  replace hB := hB.pure k2
  replace hI := hI.pure k2
  replace hw := hw.pure k2
  replace hP := hP.pure k2
  refine WL.assign rfl rfl (WL.nil (WX.then_normal (WC.seq (WC.region (WL.move rfl rfl (?_))))))
  refine WL.ptrSome Tryz.underlying108 rfl rfl rfl ?_
  rcases hnew with ⟨rfl, hno⟩ | ⟨j, x, g, hx, hxp, hno, rfl, rfl⟩
  ·
    refine WL.nil (WX.then_normal (WC.cond_false rfl (WC.skip (WX.then_normal (WC.seq (WC.seq (?_)))))))
    refine WC.draw (Nob) [0, 1, 2, 3, 4, 5, 6, 7, 8, 9, 10] [] mixed rfl rfl (fun wd_1 kd_1 zd_1 => ?_)
    have zs_kd_1 := kd_1.size
    replace hB := hB.pure kd_1
    replace hI := hI.pure kd_1
    replace hw := hw.pure kd_1
    replace hP := hP.pure kd_1
    apply DQ.step (E' := [(0, _)])
    case ho => rfl
    case hs => exact ⟨rfl, trivial⟩
    case hk => rfl
    case h1 =>
      intro wq_2 kq_2
      refine WL.move rfl rfl (?_)
      refine WL.nil ?_
      exact WX.one ⟨rfl, by exact Chg.refl _ _⟩
    apply DQ.step (E' := [(18, _)])
    case ho => rfl
    case hs => exact ⟨rfl, trivial⟩
    case hk => rfl
    case h1 =>
      intro wq_3 kq_3
      refine WL.nilCheck rfl rfl (?_)
      refine WL.nil ?_
      exact WX.one ⟨rfl, by exact Chg.refl _ _⟩
    apply DQ.step (E' := [(19, _)])
    case ho => rfl
    case hs => exact ⟨rfl, trivial⟩
    case hk => rfl
    case h1 =>
      intro wq_4 kq_4
      refine WL.fieldAddr (fld_79_2) rfl rfl (?_)
      refine WL.nil ?_
      exact WX.one ⟨rfl, by exact Chg.refl _ _⟩
    apply DQ.step (E' := [(20, _)])
    case ho => rfl
    case hs => exact ⟨rfl, trivial⟩
    case hk => rfl
    case h1 =>
      intro wq_5 kq_5
      have zs_kq_5 := kq_5.size
      replace hB := hB.pure kq_5
      replace hI := hI.pure kq_5
      replace hw := hw.pure kq_5
      replace hP := hP.pure kq_5
      refine WL.loadB Tryz.isAgg76 hB rfl rfl rfl (?_)
      refine WL.nil ?_
      exact WX.one ⟨rfl, by exact Chg.refl _ _⟩
    apply DQ.step (E' := [(3, _)])
    case ho => rfl
    case hs => exact ⟨rfl, trivial⟩
    case hk => rfl
    case h1 =>
      intro wq_6 kq_6
      have zs_kq_6 := kq_6.size
      replace hB := hB.pure kq_6
      replace hI := hI.pure kq_6
      replace hw := hw.pure kq_6
      replace hP := hP.pure kq_6
      refine WL.loadsB Tryz.isAgg103 Tryz.sizeOf103 hP rfl (by simp; done) rfl (?_)
      refine WL.nil ?_
      exact WX.one ⟨rfl, by exact Chg.refl _ _⟩
    apply DQ.step (E' := [(21, _), (22, _)])
    case ho => rfl
    case hs => exact ⟨rfl, rfl, trivial⟩
    case hk => rfl
    case h1 =>
      intro wq_7 kq_7
      have zs_kq_7 := kq_7.size
      replace hB := hB.pure kq_7
      replace hI := hI.pure kq_7
      replace hw := hw.pure kq_7
      replace hP := hP.pure kq_7
      refine WL.mlookup plOk Tryz.underlying76 Tryz.zeroValue26 hI.map rfl (show _ = some (kpl (pd, pa)) from rfl) rfl ?_
      rw [show (mget ls (pd, pa)).isSome = decide ((mget ls (pd, pa)).isSome = true) from by simp]
      refine WL.nil ?_
      exact WX.one ⟨rfl, by exact Chg.refl _ _⟩
    apply DQ.step (E' := [(23, _)])
    case ho => rfl
    case hs => exact ⟨rfl, trivial⟩
    case hk => rfl
    case h1 =>
      intro wq_8 kq_8
      refine WL.move rfl rfl (?_)
      refine WL.nil ?_
      exact WX.one ⟨rfl, by exact Chg.refl _ _⟩
    apply DQ.step (E' := [(17, _)])
    case ho => rfl
    case hs => exact ⟨rfl, trivial⟩
    case hk => rfl
    case h1 =>
      intro wq_9 kq_9
      refine WL.extract rfl rfl rfl (?_)
      refine WL.nil ?_
      exact WX.one ⟨rfl, by exact Chg.refl _ _⟩
    apply DQ.step (E' := [(17, _)])
    case ho => rfl
    case hs => exact ⟨rfl, trivial⟩
    case hk => rfl
    case h1 =>
      intro wq_10 kq_10
      refine WL.extract rfl rfl rfl (?_)
      refine WL.nil ?_
      exact WX.one ⟨rfl, by exact Chg.refl _ _⟩
    apply DQ.step (E' := [(24, _)])
    case ho => rfl
    case hs => exact ⟨rfl, trivial⟩
    case hk => rfl
    case h1 =>
      intro wq_11 kq_11
      refine WL.assign rfl rfl (?_)
      refine WL.nil ?_
      exact WX.one ⟨rfl, by exact Chg.refl _ _⟩
    apply DQ.step (E' := [(25, _)])
    case ho => rfl
    case hs => exact ⟨rfl, trivial⟩
    case hk => rfl
    case h1 =>
      intro wq_12 kq_12
      refine WL.assign rfl rfl (?_)
      refine WL.nil ?_
      exact WX.one ⟨rfl, by exact Chg.refl _ _⟩
    refine DQ.done (fun _ => ?_)
    refine DL.done (fun we_13 ke_13 => ?_)
    have zs_ke_13 := ke_13.size
    replace hB := hB.pure ke_13
    replace hI := hI.pure ke_13
    replace hw := hw.pure ke_13
    replace hP := hP.pure ke_13
    refine WX.then_normal (WC.seq (WC.region (WL.move rfl rfl (WL.nil (WX.then_normal (?_))))))
    first | refine WC.cond_dec rfl (fun hc26 => ?_) (fun hc26 => ?_) | refine WC.cond_split rfl (fun hc26 => ?_) (fun hc26 => ?_)
    ·
      refine WC.seq (WC.region (WL.move rfl rfl (WL.assign rfl rfl (WL.nil (WX.then_normal (WC.ret (WX.then_ret (?_))))))))
      refine WX.ret1 (.inl rfl) Tryz.results58 rfl ?_
      obtain ⟨r, hr⟩ := Option.isSome_iff_exists.1 hc26
      simp only [hr]
      exact ⟨_, rfl, ⟨r, rfl, (hI.byl _ (mget_mem hr)).rsl.old, by rw [heldS, hws, xsm_newV, newV_none hno, hls, xsm_get, hr]; rfl⟩, hw⟩
    ·
      refine WC.skip (WX.then_normal (WC.seq (WC.region (?_))))
      refine WL.make (e := eb) (0 : UInt8) 128 128 Tryz.underlying26 info_5 rfl rfl rfl ⟨rfl, rfl, Nat.le_refl _⟩ (by decide) rfl ?_
      intro g3 w3 hm k3 z3 eg3
      have zs_k3 := k3.size
      replace hB := hB.pure k3
      replace hI := hI.pure k3
      replace hw := hw.pure k3
      replace hP := hP.pure k3
      refine WL.assign rfl rfl (WL.nil (WX.then_normal (WC.ret (?_))))
      refine WX.ret1 (.inl rfl) Tryz.results58 rfl ?_
      have hr : mget ls (pd, pa) = none := by simpa using hc26
      exact ⟨_, rfl, ⟨⟨some ⟨g3, 0, none⟩, 128, List.replicate 128 0⟩, rfl, hm.rsl.old, by rw [heldS, hws, xsm_newV, newV_none hno, hls, xsm_get, hr]; rfl⟩, hw⟩
  ·
    refine WL.nil (WX.then_normal (WC.cond_true rfl (WC.seq (WC.region (WL.move rfl rfl (WL.nilCheck rfl rfl (WL.fieldAddr (fld_105_1) rfl rfl (?_))))))))
    refine WL.load Tryz.isAgg26 rfl (hI.waits.rsl.cellsAt hx 2 _ rfl) rfl ?_
    refine WL.assign rfl rfl (WL.nil (WX.then_normal (WC.ret (WX.then_ret (?_)))))
    refine WX.ret1 (.inl rfl) Tryz.results58 rfl ?_
    exact ⟨_, rfl, ⟨x.2, rfl, (hI.byw x (List.mem_of_getElem? hx)).rsl.old, by rw [heldS, hws, xsm_newV, newV_some hx hxp hno]; rfl⟩, hw⟩
/-! bytes of one's own -/
theorem bclone_calls {S : Nat → Prop} {w : World} {ao : Option Addr} {c : Nat} {b : List UInt8} (hr : RSl S w eb ao c b) (hl : b.length = 128) :
    Calls Tryz.prog 57 [.slice ao b.length c].toArray w (Ret fun v w' => (∃ (g c' : Nat), v = .slice (some ⟨g, 0, none⟩) b.length c' ∧ Row (· = g) w' 5 eb (some ⟨g, 0, none⟩) c' b ∧ w.heap.size ≤ g ∧ g < w'.heap.size) ∧ Chg Nob w w') := by
  replace hr := hr.old
  have hw := Chg.refl Nob w
  have hlt := hr.lt
  refine Calls.of_WC Tryz.func57 rfl Tryz.ntmps57 (by simp) ?_
  refine WC.seq (WC.region (WL.assign rfl rfl (WL.nil (WX.then_normal (WC.seq (WC.seq (WC.region (?_))))))))
  refine WL.move rfl rfl (?_)
  refine WL.isNil? Tryz.underlying26 rfl rfl rfl (fun h4 => ?_) (fun h4 => ?_)
  ·
    subst h4
    have hn := hr.none_nil
    rw [hn] at hl
    cases hl
  ·
    refine WL.nil (WX.then_normal (WC.cond_false rfl (WC.skip (WX.then_normal (WC.seq (WC.region (?_)))))))
    refine WL.build (e := eb) [] Tryz.underlying26 Tryz.sizeOf5 Tryz.zeroValue5 rfl rfl rfl (by simp [Value.cells]; done) (by decide) rfl ?_
    intro a_hq w_hq hq l_hq z_hq k_hq
    have zs_k_hq := k_hq.size
    replace hr := hr.pure k_hq
    replace hw := hw.pure k_hq
    refine WL.move rfl rfl (?_)
    refine WL.append0 (e := eb) info_5 rfl Tryz.underlying26 rfl rfl hq (hr.src Tryz.underlying26) (by omega) (by constructor <;> omega) rfl ?_
    intro g2 c2 w2 hb2 k2 eg2 z2
    have zs_k2 := k2.size
    replace hr := hr.pure k2
    replace hw := hw.pure k2
    refine WL.assign rfl rfl (WL.nil (WX.then_normal (WC.ret (?_))))
    refine WX.ret1 (.inl rfl) Tryz.results57 rfl ?_
    exact ⟨_, rfl, ⟨g2, c2, rfl, hb2, by omega, by omega⟩, hw⟩
end Go.Proofs.YtggecdldnpildaaGreat
namespace Go.Proofs.YtggecdldnpildaaGreat
open Go.RowKit Go.HL
set_option maxRecDepth 100000

theorem RK.old {A : Nat → Prop} {w : World} {R : Nat} {s : RA} (h : RK A w R s) : RK (fun b => A b ∧ b < w.heap.size) w R s := by
  obtain ⟨m, ga, gc, wa, wc, ws, ls, hB, hI, hl⟩ := h.ex
  exact ⟨⟨h.aR, hB.lt⟩, h.ok, m, ga, gc, wa, wc, ws, ls, hB, ⟨⟨hI.sm, hI.map.lt⟩, hI.map, hI.gone.lt, hI.waits.lt, fun p hp => (hI.byl p hp).lt, fun p hp => (hI.byw p hp).lt⟩, hl⟩
def inS (s : RA) (d a : Int) : Prop := 0 ≤ d ∧ d < s.dn ∧ 0 ≤ a ∧ a < s.sn
instance (s : RA) (d a : Int) : Decidable (inS s d a) := inferInstanceAs (Decidable (0 ≤ d ∧ d < s.dn ∧ 0 ≤ a ∧ a < s.sn))
def isS (s : RA) (d : Int) : Prop := 0 ≤ d ∧ d < s.dn
instance (s : RA) (d : Int) : Decidable (isS s d) := inferInstanceAs (Decidable (0 ≤ d ∧ d < s.dn))
def goneS (s : RA) (d : Int) : Bool := s.gone.getD d.toNat false
theorem goneS_at {s : RA} (h : s.ok) {d : Int} (hd : isS s d) : s.gone[d.toNat]? = some (goneS s d) := by
  have : d.toNat < s.gone.length := by rw [h.gl]; have h1 := hd.1; have h2 := hd.2; omega
  rw [goneS, List.getD_eq_getElem?_getD, List.getElem?_eq_getElem this]
  rfl
theorem Gone_calls {A : Nat → Prop} {w : World} {R : Nat} {s : RA} (h : RK A w R s) (d : Int) : Calls Tryz.prog 26 [ptr R, vi d].toArray w (Ret fun v w' => v = .bool (decide (isS s d) && goneS s d) ∧ Chg Nob w w') := by
  have hw := Chg.refl Nob w
  refine Calls.of_WC Tryz.func26 rfl Tryz.ntmps26 (by simp) ?_
  refine WC.seq (WC.region (WL.assign rfl rfl (WL.nil (WX.then_normal (WC.seq (WC.region (WL.move rfl rfl (?_))))))))
  refine WL.move rfl rfl (?_)
  refine WL.call eg_43 rfl rfl (is_calls h d) ?_
  rintro v w1 ⟨rfl, k1⟩
  have zs_k1 := k1.size
  replace h := h.pure k1
  replace hw := hw.pure k1
  obtain ⟨m, ga, gc, wa, wc, ws, ls, hB, hI, -⟩ := h.ex
  by_cases h9 : isS s d
  ·
    rw [show decide (0 ≤ d ∧ d < (s.dn : Int)) = true from decide_eq_true h9]
    refine WL.move rfl rfl (WL.want rfl rfl rfl (WL.move rfl rfl (WL.want rfl rfl rfl (WL.nilCheck rfl rfl (WL.want rfl rfl rfl (WL.fieldAddr (fld_79_3) rfl rfl (WL.want rfl rfl rfl (?_))))))))
    refine WL.loadB Tryz.isAgg55 hB rfl rfl rfl (WL.want rfl rfl rfl (WL.move rfl rfl (WL.want rfl rfl rfl (?_))))
    have hgd := goneS_at h.ok h9
    refine WL.indexT (e := ebool) Tryz.underlying55 Tryz.sizeOf4 hI.gone.rsl rfl rfl ⟨hgd, by have := h9.1; omega⟩ rfl ?_
    intro bb oo hcc
    refine WL.want rfl rfl rfl (?_)
    refine WL.load Tryz.isAgg4 rfl (hcc 0 _ rfl) rfl ?_
    refine WL.pickT rfl rfl rfl (WL.assign rfl rfl (WL.nil (WX.then_normal (WC.ret (?_)))))
    refine WX.ret1 (.inl rfl) Tryz.results26 rfl ?_
    refine ⟨_, rfl, ?_, hw⟩
    congr 1
    simp [h9]
  ·
    rw [show decide (0 ≤ d ∧ d < (s.dn : Int)) = false from decide_eq_false h9]
    refine WL.move rfl rfl (WL.pass rfl rfl rfl rfl (WL.pass rfl rfl rfl rfl (WL.pass rfl rfl rfl rfl (WL.pass rfl rfl rfl rfl (WL.pass rfl rfl rfl rfl (WL.pass rfl rfl rfl rfl (WL.pass rfl rfl rfl rfl (?_))))))))
    refine WL.pickF rfl rfl rfl (WL.assign rfl rfl (WL.nil (WX.then_normal (WC.ret (?_)))))
    refine WX.ret1 (.inl rfl) Tryz.results26 rfl ?_
    refine ⟨_, rfl, ?_, hw⟩
    congr 1
    simp [h9]
theorem Drives_calls {A : Nat → Prop} {w : World} {R : Nat} {s : RA} (h : RK A w R s) : Calls Tryz.prog 25 [ptr R].toArray w (Ret fun v w' => v = vi s.dn ∧ Chg Nob w w') := by
  obtain ⟨m, ga, gc, wa, wc, ws, ls, hB, -⟩ := h.ex
  have hw := Chg.refl Nob w
  refine Calls.of_WC Tryz.func25 rfl Tryz.ntmps25 (by simp) ?_
  refine WC.seq (WC.region (WL.assign rfl rfl (WL.nil (WX.then_normal (WC.seq (WC.seq (WC.region (?_))))))))
  refine WL.move rfl rfl (?_)
  refine WL.ptrNil Tryz.underlying27 rfl rfl rfl ?_
  refine WL.nil (WX.then_normal (WC.cond_false rfl (WC.skip (WX.then_normal (WC.seq (WC.region (WL.move rfl rfl (?_))))))))
  refine WL.nilCheck rfl rfl (WL.fieldAddr (fld_79_0) rfl rfl (WL.loadB Tryz.isAgg3 hB rfl rfl rfl (WL.assign rfl rfl (WL.nil (WX.then_normal (WC.ret (?_)))))))
  refine WX.ret1 (.inl rfl) Tryz.results25 rfl ?_
  exact ⟨_, rfl, rfl, hw⟩
theorem Sectors_calls {A : Nat → Prop} {w : World} {R : Nat} {s : RA} (h : RK A w R s) : Calls Tryz.prog 38 [ptr R].toArray w (Ret fun v w' => v = vi s.sn ∧ Chg Nob w w') := by
  obtain ⟨m, ga, gc, wa, wc, ws, ls, hB, -⟩ := h.ex
  have hw := Chg.refl Nob w
  refine Calls.of_WC Tryz.func38 rfl Tryz.ntmps38 (by simp) ?_
  refine WC.seq (WC.region (WL.assign rfl rfl (WL.nil (WX.then_normal (WC.seq (WC.seq (WC.region (?_))))))))
  refine WL.move rfl rfl (?_)
  refine WL.ptrNil Tryz.underlying27 rfl rfl rfl ?_
  refine WL.nil (WX.then_normal (WC.cond_false rfl (WC.skip (WX.then_normal (WC.seq (WC.region (WL.move rfl rfl (?_))))))))
  refine WL.nilCheck rfl rfl (WL.fieldAddr (fld_79_1) rfl rfl (WL.loadB Tryz.isAgg3 hB rfl rfl rfl (WL.assign rfl rfl (WL.nil (WX.then_normal (WC.ret (?_)))))))
  refine WX.ret1 (.inl rfl) Tryz.results38 rfl ?_
  exact ⟨_, rfl, rfl, hw⟩
/-- why a sector isn't to be had: 0: it is -/
def errS (s : RA) (d a : Int) : Int := if ¬ inS s d a then 1 else if goneS s d = true then 3 else if s.off = true then 16 else 0
theorem Read_calls {A : Nat → Prop} {w : World} {R : Nat} {s : RA} (h : RK A w R s) (d a : Int) :
    Calls Tryz.prog 30 [ptr R, vi d, vi a].toArray w (Ret fun v w' => (∃ (r : Rw) (e : Int), v = .tuple #[vsl r, vi e] ∧ e = errS s d a ∧ (e = 0 → r.xs = heldS s (d, a)) ∧ (e ≠ 0 → r = ⟨none, 0, []⟩) ∧ Row (w.heap.size ≤ ·) w' 5 eb r.ao r.cap r.xs) ∧ Chg Nob w w') := by
  have hw := Chg.refl Nob w
  refine Calls.of_WC Tryz.func30 rfl Tryz.ntmps30 (by simp) ?_
  refine WC.seq (WC.region (WL.assign rfl rfl (WL.assign rfl rfl (WL.nil (WX.then_normal (WC.seq (WC.block (?_))))))))
  refine WC.seq (WC.region (WL.move rfl rfl (WL.move rfl rfl (WL.move rfl rfl (?_)))))
  refine WL.call eg_56 rfl rfl (in_calls h d a) ?_
  rintro v w1 ⟨rfl, k1⟩
  have zs_k1 := k1.size
  replace h := h.pure k1
  replace hw := hw.pure k1
  obtain ⟨m, ga, gc, wa, wc, ws, ls, hB, hI, -⟩ := h.ex
  by_cases h12 : inS s d a
  ·
    rw [show decide (0 ≤ d ∧ d < (s.dn : Int) ∧ 0 ≤ a ∧ a < (s.sn : Int)) = true from decide_eq_true h12]
    refine WL.not rfl rfl (WL.assign rfl rfl (WL.nil (WX.then_normal (WC.cond_false rfl (WC.seq (WC.region (WL.move rfl rfl (?_))))))))
    refine WL.nilCheck rfl rfl (WL.fieldAddr (fld_79_3) rfl rfl (WL.loadB Tryz.isAgg55 hB rfl rfl rfl (WL.move rfl rfl (?_))))
    have hgd := goneS_at h.ok (d := d) ⟨h12.1, h12.2.1⟩
    refine WL.indexT (e := ebool) Tryz.underlying55 Tryz.sizeOf4 hI.gone.rsl rfl rfl ⟨hgd, by have := h12.1; omega⟩ rfl ?_
    intro bb oo hcc
    refine WL.load Tryz.isAgg4 rfl (hcc 0 _ rfl) rfl ?_
    rcases hg : goneS s d with _ | _
    ·
      refine WL.assign rfl rfl (WL.nil (WX.then_normal (WC.cond_false rfl (WC.seq (WC.region (WL.move rfl rfl (WL.nilCheck rfl rfl (?_))))))))
      refine WL.fieldAddr (fld_79_5) rfl rfl (?_)
      refine WL.loadB Tryz.isAgg4 hB rfl rfl rfl ?_
      rcases ho : s.off with _ | _
      ·
        refine WL.assign rfl rfl (WL.nil (WX.then_normal (WC.cond_false rfl (WC.skip (WX.block_normal (WX.then_normal (WC.seq (?_))))))))
        refine WC.region (WL.move rfl rfl (WL.move rfl rfl (WL.move rfl rfl (WL.bld rfl (bld_103_0_1 _ _) rfl (?_)))))
        refine WL.call eg_58 rfl rfl (held_calls h (d, a)) ?_
        rintro v w2 ⟨⟨r, rfl, hr, hx⟩, k2⟩
        have zs_k2 := k2.size
        replace h := h.pure k2
        replace hw := hw.pure k2
        replace hB := hB.pure k2
        replace hI := hI.pure k2
        refine WL.call eg_57 rfl rfl (bclone_calls hr (by rw [hx]; exact heldS_len h.ok _)) ?_
        rintro v w3 ⟨⟨g, c, rfl, hq, hq1, hq2⟩, k3⟩
        have zs_k3 := k3.size
        replace h := h.pure k3
        replace hw := hw.pure k3
        replace hB := hB.pure k3
        replace hI := hI.pure k3
        replace hr := hr.pure k3
        refine WL.assign rfl rfl (WL.assign rfl rfl (WL.nil (WX.then_normal (WC.ret (?_)))))
        refine WX.ret2 (.inl rfl) Tryz.results30 rfl rfl ?_
        exact ⟨_, rfl, ⟨⟨some ⟨g, 0, none⟩, c, r.xs⟩, 0, rfl, by simp [errS, h12, hg, ho], fun _ => hx, fun h0 => absurd rfl h0, hq.mono (fun b hb => by omega)⟩, hw⟩
      ·
        refine WL.assign rfl rfl (WL.nil (WX.then_normal (WC.cond_true rfl (WC.seq (WC.region (WL.assign rfl rfl (WL.assign rfl rfl (?_))))))))
        refine WL.nil (WX.then_normal (WC.ret (WX.block_ret (WX.then_ret (?_)))))
        refine WX.ret2 (.inl rfl) Tryz.results30 rfl rfl ?_
        exact ⟨_, rfl, ⟨⟨none, 0, []⟩, 16, rfl, by simp [errS, h12, hg, ho], fun h0 => absurd h0 (by decide), fun _ => rfl, Row.nil _ _ _ _⟩, hw⟩
    ·
      refine WL.assign rfl rfl (WL.nil (WX.then_normal (WC.cond_true rfl (WC.seq (WC.region (WL.assign rfl rfl (WL.assign rfl rfl (?_))))))))
      refine WL.nil (WX.then_normal (WC.ret (WX.block_ret (WX.then_ret (?_)))))
      refine WX.ret2 (.inl rfl) Tryz.results30 rfl rfl ?_
      exact ⟨_, rfl, ⟨⟨none, 0, []⟩, 3, rfl, by simp [errS, h12, hg], fun h0 => absurd h0 (by decide), fun _ => rfl, Row.nil _ _ _ _⟩, hw⟩
  ·
    rw [show decide (0 ≤ d ∧ d < (s.dn : Int) ∧ 0 ≤ a ∧ a < (s.sn : Int)) = false from decide_eq_false h12]
    refine WL.not rfl rfl (WL.assign rfl rfl (WL.nil (WX.then_normal (WC.cond_true rfl (WC.seq (WC.region (WL.assign rfl rfl (?_))))))))
    refine WL.assign rfl rfl (WL.nil (WX.then_normal (WC.ret (WX.block_ret (WX.then_ret (?_))))))
    refine WX.ret2 (.inl rfl) Tryz.results30 rfl rfl ?_
    exact ⟨_, rfl, ⟨⟨none, 0, []⟩, 1, rfl, by simp [errS, h12], fun h0 => absurd h0 (by decide), fun _ => rfl, Row.nil _ _ _ _⟩, hw⟩
/-! a write or flush is counted -/
def offS (s : RA) : Bool := s.off || (s.armed && decide (s.left = 0))
def spendS (s : RA) : RA := if offS s = true then { s with off := true } else { s with left := if s.armed = true then s.left - 1 else s.left }
theorem spendS_ok {s : RA} (h : s.ok) : (spendS s).ok := by
  unfold spendS
  split
  · exact ⟨h.dn, h.sn, h.gl, h.ll, h.lw, h.lf, h.nd⟩
  · rename_i h1
    refine ⟨h.dn, h.sn, h.gl, h.ll, h.lw, ?_, h.nd⟩
    obtain ⟨l1, l2, l3⟩ := h.lf
    show (s.armed = true → 0 ≤ (if s.armed = true then s.left - 1 else s.left)) ∧ _ ≤ (if s.armed = true then s.left - 1 else s.left) ∧ (if s.armed = true then s.left - 1 else s.left) ≤ _
    by_cases h2 : s.armed = true
    · rw [if_pos h2]
      have := l1 h2
      simp [offS, h2] at h1
      have h3 := h1.2
      refine ⟨fun _ => ?_, ?_, ?_⟩ <;> omega
    · rw [if_neg h2]
      exact ⟨fun h3 => absurd h3 h2, l2, l3⟩
theorem spend_calls {A : Nat → Prop} {w : World} {R : Nat} {s : RA} (h : RK A w R s) :
    Calls Tryz.prog 55 [ptr R].toArray w (Ret fun v w' => v = .bool (!offS s) ∧ RK A w' R (spendS s) ∧ Chg (fun x => x = R) w w' ∧ w'.heap.size = w.heap.size) := by
  have aR := h.aR
  have hok := h.ok
  have hsok := spendS_ok h.ok
  obtain ⟨m, ga, gc, wa, wc, ws, ls, hB, hI, hls, hws⟩ := h.ex
  replace hI := hI.open hB
  have hw := Chg.refl (fun x => x = R) w
  have hsz : w.heap.size = w.heap.size := rfl
  refine Calls.of_WC Tryz.func55 rfl Tryz.ntmps55 (by simp) ?_
  refine WC.seq (WC.region (WL.assign rfl rfl (WL.nil (WX.then_normal (WC.seq (WC.seq (WC.region (?_))))))))
  refine WL.move rfl rfl (WL.nilCheck rfl rfl (WL.fieldAddr (fld_79_6) rfl rfl (WL.loadB Tryz.isAgg4 hB rfl rfl rfl (WL.move rfl rfl (?_)))))
  refine WL.caseB (t := 7) rfl (fun hb7 => ?_) (fun hb7 => ?_)
  ·
    refine WL.want rfl rfl rfl (WL.move rfl rfl (WL.want rfl rfl rfl (WL.nilCheck rfl rfl (WL.want rfl rfl rfl (WL.fieldAddr (fld_79_7) rfl rfl (WL.want rfl rfl rfl (WL.loadB Tryz.isAgg3 hB rfl rfl rfl (?_))))))))
    refine WL.want rfl rfl rfl (?_)
    refine WL.eql? rfl rfl rfl (fun h12 => ?_) (fun h12 => ?_)
    ·
      refine WL.pickT rfl rfl rfl (WL.nil (WX.then_normal (WC.cond_true rfl (WC.region (WL.move rfl rfl (WL.nilCheck rfl rfl (WL.fieldAddr (fld_79_5) rfl rfl (?_))))))))
      refine WL.store Tryz.sizeOf4 hB rfl rfl rfl rfl ?_
      intro w_1 hs_1 hn_1 k_1
      have zs_k_1 := k_1.size
      replace hI := hI.chg k_1 (by intro b h1 h2 h3; have h4 : _ = _ := h3; (try dsimp only at h2); exfalso; omega)
      replace hw := hw.chg k_1 (by intro x h1 h2; exact h2)
      replace hB := hn_1
      refine WL.nil (WX.then_normal (WC.seq (WC.seq (WC.region (WL.move rfl rfl (WL.nilCheck rfl rfl (WL.fieldAddr (fld_79_5) rfl rfl (?_))))))))
      refine WL.loadB Tryz.isAgg4 hB rfl rfl rfl (WL.nil (WX.then_normal (?_)))
      first | refine WC.cond_dec rfl (fun hc20 => ?_) (fun hc20 => ?_) | refine WC.cond_split rfl (fun hc20 => ?_) (fun hc20 => ?_)
      ·
        refine WC.seq (WC.region (WL.assign rfl rfl (WL.nil (WX.then_normal (WC.ret (WX.then_ret (?_)))))))
        refine WX.ret1 (.inl rfl) Tryz.results55 rfl ?_
        refine ⟨_, rfl, ?_, ⟨aR, hsok, m, ga, gc, wa, wc, ws, ls, Eq.mp (congrArg (Blk _ R 79) ?_) hB, ?_, ?_, ?_⟩, hw, by omega⟩
        ·
          congr 1
          simp [offS, *]
        ·
          simp [rcells, spendS, offS, *]
        ·
          refine (show (spendS s).gone = s.gone from ?_) ▸ hI.mono (fun b hb => hb.1)
          unfold spendS
          split <;> rfl
        ·
          rw [← hls]
          unfold spendS
          split <;> rfl
        ·
          rw [← hws]
          unfold spendS
          split <;> rfl
      ·
        refine WC.skip (WX.then_normal (WC.seq (WC.seq (WC.region (WL.move rfl rfl (WL.nilCheck rfl rfl (WL.fieldAddr (fld_79_6) rfl rfl (?_))))))))
        refine WL.loadB Tryz.isAgg4 hB rfl rfl rfl (WL.nil (WX.then_normal (?_)))
        first | refine WC.cond_dec rfl (fun hc24 => ?_) (fun hc24 => ?_) | refine WC.cond_split rfl (fun hc24 => ?_) (fun hc24 => ?_)
        ·
          refine WC.region (WL.move rfl rfl (WL.nilCheck rfl rfl (WL.fieldAddr (fld_79_7) rfl rfl (WL.loadB Tryz.isAgg3 hB rfl rfl rfl (?_)))))
          have hl0 := hok.lf.1 hc24
          have hl1 := hok.lf.2.2
          refine WL.sub64 rfl rfl (by constructor <;> omega) rfl ?_
          refine WL.nilCheck rfl rfl (WL.fieldAddr (fld_79_7) rfl rfl (?_))
          refine WL.store Tryz.sizeOf3 hB rfl rfl rfl rfl ?_
          intro w_2 hs_2 hn_2 k_2
          have zs_k_2 := k_2.size
          replace hI := hI.chg k_2 (by intro b h1 h2 h3; have h4 : _ = _ := h3; (try dsimp only at h2); exfalso; omega)
          replace hw := hw.chg k_2 (by intro x h1 h2; exact h2)
          replace hB := hn_2
          refine WL.nil (WX.then_normal (WC.seq (WC.region (WL.assign rfl rfl (WL.nil (WX.then_normal (WC.ret (?_))))))))
          refine WX.ret1 (.inl rfl) Tryz.results55 rfl ?_
          exfalso; cases hc20; done
        ·
          refine WC.skip (WX.then_normal (WC.seq (WC.region (WL.assign rfl rfl (WL.nil (WX.then_normal (WC.ret (?_))))))))
          refine WX.ret1 (.inl rfl) Tryz.results55 rfl ?_
          exfalso; cases hc20; done
    ·
      refine WL.pickT rfl rfl rfl (WL.nil (WX.then_normal (WC.cond_false rfl (WC.skip (WX.then_normal (WC.seq (WC.seq (?_))))))))
      refine WC.region (WL.move rfl rfl (WL.nilCheck rfl rfl (WL.fieldAddr (fld_79_5) rfl rfl (WL.loadB Tryz.isAgg4 hB rfl rfl rfl (WL.nil (WX.then_normal (?_)))))))
      first | refine WC.cond_dec rfl (fun hc20 => ?_) (fun hc20 => ?_) | refine WC.cond_split rfl (fun hc20 => ?_) (fun hc20 => ?_)
      ·
        refine WC.seq (WC.region (WL.assign rfl rfl (WL.nil (WX.then_normal (WC.ret (WX.then_ret (?_)))))))
        refine WX.ret1 (.inl rfl) Tryz.results55 rfl ?_
        refine ⟨_, rfl, ?_, ⟨aR, hsok, m, ga, gc, wa, wc, ws, ls, Eq.mp (congrArg (Blk _ R 79) ?_) hB, ?_, ?_, ?_⟩, hw, by omega⟩
        ·
          congr 1
          simp [offS, *]
        ·
          simp [rcells, spendS, offS, *]
        ·
          refine (show (spendS s).gone = s.gone from ?_) ▸ hI.mono (fun b hb => hb.1)
          unfold spendS
          split <;> rfl
        ·
          rw [← hls]
          unfold spendS
          split <;> rfl
        ·
          rw [← hws]
          unfold spendS
          split <;> rfl
      ·
        refine WC.skip (WX.then_normal (WC.seq (WC.seq (WC.region (WL.move rfl rfl (WL.nilCheck rfl rfl (WL.fieldAddr (fld_79_6) rfl rfl (?_))))))))
        refine WL.loadB Tryz.isAgg4 hB rfl rfl rfl (WL.nil (WX.then_normal (?_)))
        first | refine WC.cond_dec rfl (fun hc24 => ?_) (fun hc24 => ?_) | refine WC.cond_split rfl (fun hc24 => ?_) (fun hc24 => ?_)
        ·
          refine WC.region (WL.move rfl rfl (WL.nilCheck rfl rfl (WL.fieldAddr (fld_79_7) rfl rfl (WL.loadB Tryz.isAgg3 hB rfl rfl rfl (?_)))))
          have hl0 := hok.lf.1 hc24
          have hl1 := hok.lf.2.2
          refine WL.sub64 rfl rfl (by constructor <;> omega) rfl ?_
          refine WL.nilCheck rfl rfl (WL.fieldAddr (fld_79_7) rfl rfl (?_))
          refine WL.store Tryz.sizeOf3 hB rfl rfl rfl rfl ?_
          intro w_1 hs_1 hn_1 k_1
          have zs_k_1 := k_1.size
          replace hI := hI.chg k_1 (by intro b h1 h2 h3; have h4 : _ = _ := h3; (try dsimp only at h2); exfalso; omega)
          replace hw := hw.chg k_1 (by intro x h1 h2; exact h2)
          replace hB := hn_1
          refine WL.nil (WX.then_normal (WC.seq (WC.region (WL.assign rfl rfl (WL.nil (WX.then_normal (WC.ret (?_))))))))
          refine WX.ret1 (.inl rfl) Tryz.results55 rfl ?_
          refine ⟨_, rfl, ?_, ⟨aR, hsok, m, ga, gc, wa, wc, ws, ls, Eq.mp (congrArg (Blk _ R 79) ?_) hB, ?_, ?_, ?_⟩, hw, by omega⟩
          ·
            congr 1
            simp [offS, *]
          ·
            simp [rcells, spendS, offS, *]
          ·
            refine (show (spendS s).gone = s.gone from ?_) ▸ hI.mono (fun b hb => hb.1)
            unfold spendS
            split <;> rfl
          ·
            rw [← hls]
            unfold spendS
            split <;> rfl
          ·
            rw [← hws]
            unfold spendS
            split <;> rfl
        ·
          refine WC.skip (WX.then_normal (WC.seq (WC.region (WL.assign rfl rfl (WL.nil (WX.then_normal (WC.ret (?_))))))))
          refine WX.ret1 (.inl rfl) Tryz.results55 rfl ?_
          exfalso; rw [hb7] at hc24; cases hc24; done
  ·
    refine WL.pass rfl rfl rfl rfl (WL.pass rfl rfl rfl rfl (WL.pass rfl rfl rfl rfl (WL.pass rfl rfl rfl rfl (WL.pass rfl rfl rfl rfl (WL.pickF rfl rfl rfl (WL.nil (WX.then_normal (?_))))))))
    refine WC.cond_false rfl (WC.skip (WX.then_normal (WC.seq (WC.seq (WC.region (WL.move rfl rfl (WL.nilCheck rfl rfl (?_))))))))
    refine WL.fieldAddr (fld_79_5) rfl rfl (WL.loadB Tryz.isAgg4 hB rfl rfl rfl (WL.nil (WX.then_normal (?_))))
    first | refine WC.cond_dec rfl (fun hc20 => ?_) (fun hc20 => ?_) | refine WC.cond_split rfl (fun hc20 => ?_) (fun hc20 => ?_)
    ·
      refine WC.seq (WC.region (WL.assign rfl rfl (WL.nil (WX.then_normal (WC.ret (WX.then_ret (?_)))))))
      refine WX.ret1 (.inl rfl) Tryz.results55 rfl ?_
      refine ⟨_, rfl, ?_, ⟨aR, hsok, m, ga, gc, wa, wc, ws, ls, Eq.mp (congrArg (Blk _ R 79) ?_) hB, ?_, ?_, ?_⟩, hw, by omega⟩
      ·
        congr 1
        simp [offS, *]
      ·
        simp [rcells, spendS, offS, *]
      ·
        refine (show (spendS s).gone = s.gone from ?_) ▸ hI.mono (fun b hb => hb.1)
        unfold spendS
        split <;> rfl
      ·
        rw [← hls]
        unfold spendS
        split <;> rfl
      ·
        rw [← hws]
        unfold spendS
        split <;> rfl
    ·
      refine WC.skip (WX.then_normal (WC.seq (WC.seq (WC.region (WL.move rfl rfl (WL.nilCheck rfl rfl (WL.fieldAddr (fld_79_6) rfl rfl (?_))))))))
      refine WL.loadB Tryz.isAgg4 hB rfl rfl rfl (WL.nil (WX.then_normal (?_)))
      first | refine WC.cond_dec rfl (fun hc24 => ?_) (fun hc24 => ?_) | refine WC.cond_split rfl (fun hc24 => ?_) (fun hc24 => ?_)
      ·
        refine WC.region (WL.move rfl rfl (WL.nilCheck rfl rfl (WL.fieldAddr (fld_79_7) rfl rfl (WL.loadB Tryz.isAgg3 hB rfl rfl rfl (?_)))))
        have hl0 := hok.lf.1 hc24
        have hl1 := hok.lf.2.2
        refine WL.sub64 rfl rfl (by constructor <;> omega) rfl ?_
        refine WL.nilCheck rfl rfl (WL.fieldAddr (fld_79_7) rfl rfl (?_))
        refine WL.store Tryz.sizeOf3 hB rfl rfl rfl rfl ?_
        intro w_1 hs_1 hn_1 k_1
        have zs_k_1 := k_1.size
        replace hI := hI.chg k_1 (by intro b h1 h2 h3; have h4 : _ = _ := h3; (try dsimp only at h2); exfalso; omega)
        replace hw := hw.chg k_1 (by intro x h1 h2; exact h2)
        replace hB := hn_1
        refine WL.nil (WX.then_normal (WC.seq (WC.region (WL.assign rfl rfl (WL.nil (WX.then_normal (WC.ret (?_))))))))
        refine WX.ret1 (.inl rfl) Tryz.results55 rfl ?_
        exfalso; rw [hb7] at hc24; cases hc24; done
      ·
        refine WC.skip (WX.then_normal (WC.seq (WC.region (WL.assign rfl rfl (WL.nil (WX.then_normal (WC.ret (?_))))))))
        refine WX.ret1 (.inl rfl) Tryz.results55 rfl ?_
        refine ⟨_, rfl, ?_, ⟨aR, hsok, m, ga, gc, wa, wc, ws, ls, Eq.mp (congrArg (Blk _ R 79) ?_) hB, ?_, ?_, ?_⟩, hw, by omega⟩
        ·
          congr 1
          simp [offS, *]
        ·
          simp [rcells, spendS, offS, *]
        ·
          refine (show (spendS s).gone = s.gone from ?_) ▸ hI.mono (fun b hb => hb.1)
          unfold spendS
          split <;> rfl
        ·
          rw [← hls]
          unfold spendS
          split <;> rfl
        ·
          rw [← hws]
          unfold spendS
          split <;> rfl
end Go.Proofs.YtggecdldnpildaaGreat
namespace Go.Proofs.YtggecdldnpildaaGreat
open Go.RowKit Go.HL
set_option maxRecDepth 100000

/-! a write -/
theorem spendS_dn (s : RA) : (spendS s).dn = s.dn := by unfold spendS; split <;> rfl
theorem spendS_sn (s : RA) : (spendS s).sn = s.sn := by unfold spendS; split <;> rfl
theorem spendS_gone (s : RA) : (spendS s).gone = s.gone := by unfold spendS; split <;> rfl
theorem spendS_waits (s : RA) : (spendS s).waits = s.waits := by unfold spendS; split <;> rfl
theorem spendS_last (s : RA) : (spendS s).last = s.last := by unfold spendS; split <;> rfl
def writeE (s : RA) (d a : Int) (n : Nat) : Int := if ¬ inS s d a ∨ n ≠ 128 then 1 else if goneS s d = true then 3 else if offS s = true then 16 else 0
def writeS (s : RA) (d a : Int) (b : List UInt8) : RA := if writeE s d a b.length = 0 then { spendS s with waits := s.waits ++ [((d, a), b)] } else if writeE s d a b.length = 16 then spendS s else s
theorem writeE_0 {s : RA} {d a : Int} {n : Nat} : writeE s d a n = 0 ↔ inS s d a ∧ n = 128 ∧ goneS s d = false ∧ offS s = false := by
  unfold writeE
  by_cases h1 : inS s d a <;> by_cases h2 : n = 128 <;> cases h3 : goneS s d <;> cases h4 : offS s <;> simp [h1, h2]
theorem writeS_ok {s : RA} (h : s.ok) (d a : Int) (b : List UInt8) : (writeS s d a b).ok := by
  have h1 := spendS_ok h
  unfold writeS
  split
  · rename_i h2
    have hb := (writeE_0.1 h2).2.1
    refine ⟨h1.dn, h1.sn, h1.gl, h1.ll, fun p hp => ?_, h1.lf, h1.nd⟩
    rcases List.mem_append.1 hp with h3 | h3
    · exact h.lw p h3
    · simp at h3
      rw [h3]
      exact hb
  · split
    · exact h1
    · exact h
theorem Write_calls {A S : Nat → Prop} {w : World} {R : Nat} {s : RA} (h : RK A w R s) (d a : Int) {ao : Option Addr} {c : Nat} {b : List UInt8} (hb : RSl S w eb ao c b) (hS : ∀ x, S x → x = R → False) (hn : s.waits.length ≤ 100000) :
    Calls Tryz.prog 31 [ptr R, vi d, vi a, .slice ao b.length c].toArray w (Ret fun v w' => v = vi (writeE s d a b.length) ∧ RK (fun x => A x ∨ w.heap.size ≤ x) w' R (writeS s d a b) ∧ Chg A w w') := by
  have aR := h.aR
  have hok := h.ok
  have hwok := writeS_ok h.ok d a b
  have hcap := hb.cap
  have hlen : b.length ≤ 140737488355328 ∨ 140737488355328 < b.length := by omega
  have hw := Chg.refl A w
  refine Calls.of_WC Tryz.func31 rfl Tryz.ntmps31 (by simp) ?_
  refine WC.seq (WC.region (WL.assign rfl rfl (WL.nil (WX.then_normal (WC.seq (WC.block (WC.seq (?_))))))))
  refine WC.region (WL.move rfl rfl (WL.move rfl rfl (WL.move rfl rfl (?_))))
  refine WL.call eg_56 rfl rfl (in_calls h d a) ?_
  rintro v w1 ⟨rfl, k1⟩
  have zs_k1 := k1.size
  replace h := h.pure k1
  replace hb := hb.pure k1
  replace hw := hw.pure k1
  by_cases h12 : inS s d a
  ·
    rw [show decide (0 ≤ d ∧ d < (s.dn : Int) ∧ 0 ≤ a ∧ a < (s.sn : Int)) = true from decide_eq_true h12]
    refine WL.not rfl rfl (WL.move rfl rfl (WL.want rfl rfl rfl (WL.move rfl rfl (WL.want rfl rfl rfl (WL.len Tryz.underlying26 rfl rfl (WL.want rfl rfl rfl (?_)))))))
    refine WL.neq? rfl rfl rfl (fun h18 => ?_) (fun h18 => ?_)
    ·
      refine WL.pickF rfl rfl rfl (WL.assign rfl rfl (WL.nil (WX.then_normal (WC.cond_true rfl (WC.seq (WC.region (WL.assign rfl rfl (?_))))))))
      refine WL.nil (WX.then_normal (WC.ret (WX.block_ret (WX.then_ret (?_)))))
      refine WX.ret1 (.inl rfl) Tryz.results31 rfl ?_
      have hh : (b.length : Int) ≠ 128 := h18
      have hh2 : b.length ≠ 128 := by omega
      exact ⟨_, rfl, by simp [writeE, hh2], by rw [show writeS s d a b = s from by simp [writeS, writeE, hh2]]; exact h.mono (fun x hx => .inl hx), hw⟩
    ·
      refine WL.pickF rfl rfl rfl (WL.assign rfl rfl (WL.nil (WX.then_normal (WC.cond_false rfl (WC.seq (WC.region (WL.move rfl rfl (?_))))))))
      refine WL.nilCheck rfl rfl (WL.fieldAddr (fld_79_3) rfl rfl (?_))
      obtain ⟨m, ga, gc, wa, wc, ws, ls, hB, hI, -⟩ := h.ex
      refine WL.loadB Tryz.isAgg55 hB rfl rfl rfl ?_
      refine WL.move rfl rfl (?_)
      have hgd := goneS_at h.ok (d := d) ⟨h12.1, h12.2.1⟩
      refine WL.indexT (e := ebool) Tryz.underlying55 Tryz.sizeOf4 hI.gone.rsl rfl rfl ⟨hgd, by have := h12.1; omega⟩ rfl ?_
      intro bb oo hcc
      refine WL.load Tryz.isAgg4 rfl (hcc 0 _ rfl) rfl ?_
      rcases hg : goneS s d with _ | _
      ·
        refine WL.assign rfl rfl (WL.nil (WX.then_normal (WC.cond_false rfl (WC.seq (WC.region (WL.move rfl rfl (?_)))))))
        clear hB hI hcc
        refine WL.call eg_55 rfl rfl (spend_calls h) ?_
        rintro v w2 ⟨rfl, h2, k2, z2⟩
        have zs_k2 := k2.size
        replace hb := hb.chg k2 (by intro x h0 h1 h2; exact hS x h1 h2)
        replace hw := hw.chg k2 (by intro x h1 h2; have h3 : _ = _ := h2; subst h3; assumption)
        rcases ho : offS s with _ | _
        ·
          refine WL.not rfl rfl (WL.assign rfl rfl (WL.nil (WX.then_normal (WC.cond_false rfl (WC.skip (WX.block_normal (WX.then_normal (?_))))))))
          refine WC.seq (?_)
          obtain ⟨m, ga, gc, wa, wc, ws, ls, hB, hI, hls, hws⟩ := h2.ex
          replace hI := (hI.open hB).mono (S' := fun x => (A x ∨ w.heap.size ≤ x) ∧ x ≠ R) (fun x hx => ⟨.inl hx.1, hx.2⟩)
          have aR2 : A R ∨ w.heap.size ≤ R := .inl aR
          have lR := hB.lt
          have zw := hw.size
          have hwl : ws.length ≤ 100000 := by rw [← xsm_len, ← hws, spendS_waits]; exact hn
          refine WC.drawM ((fun x => A x ∨ w.heap.size ≤ x)) [0, 1, 2, 3, 5, 6, 7, 8, 13, 14] [4, 9, 10, 11, 12, 15] mixed rfl rfl (fun wd_1 kd_1 zd_1 => ?_)
          have zs_kd_1 := kd_1.size
          replace hb := hb.pure kd_1
          replace hw := hw.pure kd_1
          replace hB := hB.pure kd_1
          replace hI := hI.pure kd_1
          apply DQT.step (E' := [(0, _)])
          case ho => rfl
          case hs => exact ⟨rfl, trivial⟩
          case hk => rfl
          case h1 =>
            intro wq_3 kq_3
            refine WL.move rfl rfl (?_)
            refine WL.nil ?_
            exact WX.one ⟨rfl, by exact Chg.refl _ _⟩
          apply DQT.step (E' := [(0, _)])
          case ho => rfl
          case hs => exact ⟨rfl, trivial⟩
          case hk => rfl
          case h1 =>
            intro wq_4 kq_4
            refine WL.move rfl rfl (?_)
            refine WL.nil ?_
            exact WX.one ⟨rfl, by exact Chg.refl _ _⟩
          apply DQT.step (E' := [(33, _)])
          case ho => rfl
          case hs => exact ⟨rfl, trivial⟩
          case hk => rfl
          case h1 =>
            intro wq_5 kq_5
            refine WL.nilCheck rfl rfl (?_)
            refine WL.nil ?_
            exact WX.one ⟨rfl, by exact Chg.refl _ _⟩
          apply DQT.step (E' := [(34, _)])
          case ho => rfl
          case hs => exact ⟨rfl, trivial⟩
          case hk => rfl
          case h1 =>
            intro wq_6 kq_6
            refine WL.fieldAddr (fld_79_4) rfl rfl (?_)
            refine WL.nil ?_
            exact WX.one ⟨rfl, by exact Chg.refl _ _⟩
          apply DQT.step (E' := [(1, _)])
          case ho => rfl
          case hs => exact ⟨rfl, trivial⟩
          case hk => rfl
          case h1 =>
            intro wq_7 kq_7
            refine WL.move rfl rfl (?_)
            refine WL.nil ?_
            exact WX.one ⟨rfl, by exact Chg.refl _ _⟩
          apply DQT.step (E' := [(2, _)])
          case ho => rfl
          case hs => exact ⟨rfl, trivial⟩
          case hk => rfl
          case h1 =>
            intro wq_8 kq_8
            refine WL.move rfl rfl (?_)
            refine WL.nil ?_
            exact WX.one ⟨rfl, by exact Chg.refl _ _⟩
          apply DQT.step (E' := [(37, _), (38, _)])
          case ho => rfl
          case hs => exact ⟨rfl, rfl, trivial⟩
          case hk => rfl
          case h1 =>
            intro wq_9 kq_9
            refine WL.bld rfl (bld_103_0_1 _ _) rfl (?_)
            refine WL.nil ?_
            exact WX.one ⟨rfl, by exact Chg.refl _ _⟩
          apply DQT.step (E' := [(3, _)])
          case ho => rfl
          case hs => exact ⟨rfl, trivial⟩
          case hk => rfl
          case h1 =>
            intro wq_10 kq_10
            refine WL.move rfl rfl (?_)
            refine WL.nil ?_
            exact WX.one ⟨rfl, by exact Chg.refl _ _⟩
          apply DQT.step (E' := [(32, _)])
          case ho => rfl
          case hs => exact ⟨rfl, trivial⟩
          case hk => rfl
          case h1 =>
            intro wq_11 kq_11
            refine WL.nilCheck rfl rfl (?_)
            refine WL.nil ?_
            exact WX.one ⟨rfl, by exact Chg.refl _ _⟩
          apply DQT.step (E' := [(45, _)])
          case ho => rfl
          case hs => exact ⟨rfl, trivial⟩
          case hk => rfl
          case h1 =>
            intro wq_12 kq_12
            refine WL.fieldAddr (fld_79_4) rfl rfl (?_)
            refine WL.nil ?_
            exact WX.one ⟨rfl, by exact Chg.refl _ _⟩
          refine DQT.done (fun hd_2 => ?_)
          refine ⟨?_, ?_, trivial, trivial, trivial, trivial, trivial⟩
          refine DT.step [(35, _)] rfl ⟨rfl, trivial⟩ rfl (fun wq_13 kq_13 => ?_)
          have zs_kq_13 := kq_13.size
          replace hb := hb.pure kq_13
          replace hw := hw.pure kq_13
          replace hB := hB.pure kq_13
          replace hI := hI.pure kq_13
          replace hd_2 := hd_2.pure kq_13
          refine WL.loadB Tryz.isAgg77 hB rfl rfl rfl (?_)
          refine WL.nil (WX.one ⟨hd_2, ?_⟩)
          refine ⟨?_, trivial, trivial, trivial, trivial, trivial⟩
          refine DT.step [(40, _)] rfl ⟨rfl, trivial⟩ rfl (fun wq_14 kq_14 => ?_)
          have zs_kq_14 := kq_14.size
          replace hb := hb.pure kq_14
          replace hw := hw.pure kq_14
          replace hB := hB.pure kq_14
          replace hI := hI.pure kq_14
          replace hd_2 := hd_2.pure kq_14
          refine WL.call eg_57 rfl rfl (bclone_calls hb (by omega)) ?_
          rintro v w3 ⟨⟨gq, cq, rfl, hq, hq1, hq2⟩, k3⟩
          have zs_k3 := k3.size
          replace hb := hb.pure k3
          replace hw := hw.pure k3
          replace hB := hB.pure k3
          replace hI := hI.pure k3
          replace hd_2 := hd_2.pure k3
          refine WL.nil (WX.one ⟨hd_2, ?_⟩)
          refine ⟨?_, trivial, trivial, trivial, trivial⟩
          refine DT.step [(39, _), (41, _)] rfl ⟨rfl, rfl, trivial⟩ rfl (fun wq_15 kq_15 => ?_)
          have zs_kq_15 := kq_15.size
          replace hb := hb.pure kq_15
          replace hw := hw.pure kq_15
          replace hB := hB.pure kq_15
          replace hI := hI.pure kq_15
          replace hd_2 := hd_2.pure kq_15
          replace hq := hq.pure kq_15
          refine WL.bld rfl (bld_105_0_1 _ _ _ _ _) rfl (?_)
          refine WL.nil (WX.one ⟨hd_2, ?_⟩)
          refine ⟨?_, trivial, trivial, trivial⟩
          refine DT.step [(42, _)] rfl ⟨rfl, trivial⟩ rfl (fun wq_16 kq_16 => ?_)
          have zs_kq_16 := kq_16.size
          replace hb := hb.pure kq_16
          replace hw := hw.pure kq_16
          replace hB := hB.pure kq_16
          replace hI := hI.pure kq_16
          replace hd_2 := hd_2.pure kq_16
          replace hq := hq.pure kq_16
          refine WL.build (e := ewr) [((d, a), ⟨some ⟨gq, 0, none⟩, cq, b⟩)] Tryz.underlying77 Tryz.sizeOf105 Tryz.zeroValue105 rfl rfl rfl (by simp [Value.cells] <;> rfl) (by decide) rfl ?_
          intro a_b43 w_b43 b43 l_b43 z_b43 k_b43
          have zs_k_b43 := k_b43.size
          replace hb := hb.pure k_b43
          replace hw := hw.pure k_b43
          replace hB := hB.pure k_b43
          replace hI := hI.pure k_b43
          replace hd_2 := hd_2.pure k_b43
          replace hq := hq.pure k_b43
          refine WL.nil (WX.one ⟨hd_2, ?_⟩)
          refine ⟨?_, trivial, trivial⟩
          refine DT.step [(36, _), (43, _)] rfl ⟨rfl, rfl, trivial⟩ rfl (fun wq_17 kq_17 => ?_)
          have zs_kq_17 := kq_17.size
          replace hb := hb.pure kq_17
          replace hw := hw.pure kq_17
          replace hB := hB.pure kq_17
          replace hI := hI.pure kq_17
          replace hd_2 := hd_2.pure kq_17
          replace hq := hq.pure kq_17
          replace b43 := b43.pure kq_17
          refine WL.append (e := ewr) info_105 rfl Tryz.underlying77 rfl rfl hI.waits (b43.rsl.src Tryz.underlying77) (by constructor <;> (simp only [List.length_cons, List.length_nil]; omega)) (fun x hx => ⟨.inr (by omega), by omega⟩) rfl ?_
          intro ao9 c9 w9 hb9 gg9 n9
          have hq9 : Row (fun x => (A x ∨ w.heap.size ≤ x) ∧ x ≠ R) _ 5 eb (some ⟨gq, 0, none⟩) cq b := hq.mono (fun x hx => ⟨.inr (by omega), by omega⟩)
          have hI9 := hI.setWaits hb9 gg9.chg (fun x hx => hx.1) (fun p hp => by
            rcases List.mem_append.1 hp with h3 | h3
            ·
              exact .inl ⟨p, h3, rfl⟩
            ·
              simp at h3
              right
              rw [h3]
              exact hq9)
          have gk : Chg (fun x => (A x ∨ w.heap.size ≤ x) ∧ x ≠ R) _ w9 := gg9.chg.mono (fun x _ hx => hx.2)
          have zs_gk := gk.size
          replace hw := hw.chg gk (by intro x h1 h2; rcases h2.1 with h3 | h3; exact h3; exfalso; omega)
          replace hB := hB.chg gk (by intro h1; exfalso; have h4 := h1.2; (try dsimp only at *); omega)
          replace hd_2 := hd_2.chg gk (by intro x h1 h2; exact h2.1)
          refine WL.nil (WX.one ⟨hd_2, ?_⟩)
          refine ⟨?_, trivial⟩
          refine DT.step [(46, _), (44, _)] rfl ⟨rfl, rfl, trivial⟩ rfl (fun wq_18 kq_18 => ?_)
          have zs_kq_18 := kq_18.size
          replace hw := hw.pure kq_18
          replace hB := hB.pure kq_18
          replace hd_2 := hd_2.pure kq_18
          replace hI9 := hI9.pure kq_18
          refine WL.store Tryz.sizeOf77 hB rfl rfl rfl rfl ?_
          intro w_19 hs_19 hn_19 k_19
          have zs_k_19 := k_19.size
          replace hw := hw.chg k_19 (by intro x h1 h2; have h3 : _ = _ := h2; subst h3; assumption)
          replace hd_2 := hd_2.chg k_19 (by intro x h1 h2; have h3 : _ = _ := h2; subst h3; assumption)
          replace hI9 := hI9.chg k_19 (by intro b h1 h2 h3; have h4 : _ = _ := h3; (try dsimp only at h2); exfalso; omega)
          replace hB := hn_19
          refine WL.nil (WX.one0 (v := undef) ⟨hd_2, ?_⟩)
          refine DT.done (fun we_20 ke_20 => ?_) _
          have zs_ke_20 := ke_20.size
          replace hw := hw.pure ke_20
          replace hB := hB.pure ke_20
          replace hd_2 := hd_2.pure ke_20
          replace hI9 := hI9.pure ke_20
          rotate_left
          refine DT.step [(40, _)] rfl ⟨rfl, trivial⟩ rfl (fun wq_13 kq_13 => ?_)
          have zs_kq_13 := kq_13.size
          replace hb := hb.pure kq_13
          replace hw := hw.pure kq_13
          replace hB := hB.pure kq_13
          replace hI := hI.pure kq_13
          replace hd_2 := hd_2.pure kq_13
          refine WL.call eg_57 rfl rfl (bclone_calls hb (by omega)) ?_
          rintro v w3 ⟨⟨gq, cq, rfl, hq, hq1, hq2⟩, k3⟩
          have zs_k3 := k3.size
          replace hb := hb.pure k3
          replace hw := hw.pure k3
          replace hB := hB.pure k3
          replace hI := hI.pure k3
          replace hd_2 := hd_2.pure k3
          refine WL.nil (WX.one ⟨hd_2, ?_⟩)
          refine ⟨?_, ?_, trivial, trivial, trivial, trivial⟩
          refine DT.step [(35, _)] rfl ⟨rfl, trivial⟩ rfl (fun wq_14 kq_14 => ?_)
          have zs_kq_14 := kq_14.size
          replace hb := hb.pure kq_14
          replace hw := hw.pure kq_14
          replace hB := hB.pure kq_14
          replace hI := hI.pure kq_14
          replace hd_2 := hd_2.pure kq_14
          replace hq := hq.pure kq_14
          refine WL.loadB Tryz.isAgg77 hB rfl rfl rfl (?_)
          refine WL.nil (WX.one ⟨hd_2, ?_⟩)
          refine ⟨?_, trivial, trivial, trivial, trivial⟩
          refine DT.step [(39, _), (41, _)] rfl ⟨rfl, rfl, trivial⟩ rfl (fun wq_15 kq_15 => ?_)
          have zs_kq_15 := kq_15.size
          replace hb := hb.pure kq_15
          replace hw := hw.pure kq_15
          replace hB := hB.pure kq_15
          replace hI := hI.pure kq_15
          replace hd_2 := hd_2.pure kq_15
          replace hq := hq.pure kq_15
          refine WL.bld rfl (bld_105_0_1 _ _ _ _ _) rfl (?_)
          refine WL.nil (WX.one ⟨hd_2, ?_⟩)
          refine ⟨?_, trivial, trivial, trivial⟩
          refine DT.step [(42, _)] rfl ⟨rfl, trivial⟩ rfl (fun wq_16 kq_16 => ?_)
          have zs_kq_16 := kq_16.size
          replace hb := hb.pure kq_16
          replace hw := hw.pure kq_16
          replace hB := hB.pure kq_16
          replace hI := hI.pure kq_16
          replace hd_2 := hd_2.pure kq_16
          replace hq := hq.pure kq_16
          refine WL.build (e := ewr) [((d, a), ⟨some ⟨gq, 0, none⟩, cq, b⟩)] Tryz.underlying77 Tryz.sizeOf105 Tryz.zeroValue105 rfl rfl rfl (by simp [Value.cells] <;> rfl) (by decide) rfl ?_
          intro a_b43 w_b43 b43 l_b43 z_b43 k_b43
          have zs_k_b43 := k_b43.size
          replace hb := hb.pure k_b43
          replace hw := hw.pure k_b43
          replace hB := hB.pure k_b43
          replace hI := hI.pure k_b43
          replace hd_2 := hd_2.pure k_b43
          replace hq := hq.pure k_b43
          refine WL.nil (WX.one ⟨hd_2, ?_⟩)
          refine ⟨?_, trivial, trivial⟩
          refine DT.step [(36, _), (43, _)] rfl ⟨rfl, rfl, trivial⟩ rfl (fun wq_17 kq_17 => ?_)
          have zs_kq_17 := kq_17.size
          replace hb := hb.pure kq_17
          replace hw := hw.pure kq_17
          replace hB := hB.pure kq_17
          replace hI := hI.pure kq_17
          replace hd_2 := hd_2.pure kq_17
          replace hq := hq.pure kq_17
          replace b43 := b43.pure kq_17
          refine WL.append (e := ewr) info_105 rfl Tryz.underlying77 rfl rfl hI.waits (b43.rsl.src Tryz.underlying77) (by constructor <;> (simp only [List.length_cons, List.length_nil]; omega)) (fun x hx => ⟨.inr (by omega), by omega⟩) rfl ?_
          intro ao9 c9 w9 hb9 gg9 n9
          have hq9 : Row (fun x => (A x ∨ w.heap.size ≤ x) ∧ x ≠ R) _ 5 eb (some ⟨gq, 0, none⟩) cq b := hq.mono (fun x hx => ⟨.inr (by omega), by omega⟩)
          have hI9 := hI.setWaits hb9 gg9.chg (fun x hx => hx.1) (fun p hp => by
            rcases List.mem_append.1 hp with h3 | h3
            ·
              exact .inl ⟨p, h3, rfl⟩
            ·
              simp at h3
              right
              rw [h3]
              exact hq9)
          have gk : Chg (fun x => (A x ∨ w.heap.size ≤ x) ∧ x ≠ R) _ w9 := gg9.chg.mono (fun x _ hx => hx.2)
          have zs_gk := gk.size
          replace hw := hw.chg gk (by intro x h1 h2; rcases h2.1 with h3 | h3; exact h3; exfalso; omega)
          replace hB := hB.chg gk (by intro h1; exfalso; have h4 := h1.2; (try dsimp only at *); omega)
          replace hd_2 := hd_2.chg gk (by intro x h1 h2; exact h2.1)
          refine WL.nil (WX.one ⟨hd_2, ?_⟩)
          refine ⟨?_, trivial⟩
          refine DT.step [(46, _), (44, _)] rfl ⟨rfl, rfl, trivial⟩ rfl (fun wq_18 kq_18 => ?_)
          have zs_kq_18 := kq_18.size
          replace hw := hw.pure kq_18
          replace hB := hB.pure kq_18
          replace hd_2 := hd_2.pure kq_18
          replace hI9 := hI9.pure kq_18
          refine WL.store Tryz.sizeOf77 hB rfl rfl rfl rfl ?_
          intro w_19 hs_19 hn_19 k_19
          have zs_k_19 := k_19.size
          replace hw := hw.chg k_19 (by intro x h1 h2; have h3 : _ = _ := h2; subst h3; assumption)
          replace hd_2 := hd_2.chg k_19 (by intro x h1 h2; have h3 : _ = _ := h2; subst h3; assumption)
          replace hI9 := hI9.chg k_19 (by intro b h1 h2 h3; have h4 : _ = _ := h3; (try dsimp only at h2); exfalso; omega)
          replace hB := hn_19
          refine WL.nil (WX.one0 (v := undef) ⟨hd_2, ?_⟩)
          refine DT.done (fun we_20 ke_20 => ?_) _
          have zs_ke_20 := ke_20.size
          replace hw := hw.pure ke_20
          replace hB := hB.pure ke_20
          replace hd_2 := hd_2.pure ke_20
          replace hI9 := hI9.pure ke_20
          rotate_left
          refine DT.step [(39, _), (41, _)] rfl ⟨rfl, rfl, trivial⟩ rfl (fun wq_14 kq_14 => ?_)
          have zs_kq_14 := kq_14.size
          replace hb := hb.pure kq_14
          replace hw := hw.pure kq_14
          replace hB := hB.pure kq_14
          replace hI := hI.pure kq_14
          replace hd_2 := hd_2.pure kq_14
          replace hq := hq.pure kq_14
          refine WL.bld rfl (bld_105_0_1 _ _ _ _ _) rfl (?_)
          refine WL.nil (WX.one ⟨hd_2, ?_⟩)
          refine ⟨?_, ?_, trivial, trivial, trivial⟩
          refine DT.step [(35, _)] rfl ⟨rfl, trivial⟩ rfl (fun wq_15 kq_15 => ?_)
          have zs_kq_15 := kq_15.size
          replace hb := hb.pure kq_15
          replace hw := hw.pure kq_15
          replace hB := hB.pure kq_15
          replace hI := hI.pure kq_15
          replace hd_2 := hd_2.pure kq_15
          replace hq := hq.pure kq_15
          refine WL.loadB Tryz.isAgg77 hB rfl rfl rfl (?_)
          refine WL.nil (WX.one ⟨hd_2, ?_⟩)
          refine ⟨?_, trivial, trivial, trivial⟩
          refine DT.step [(42, _)] rfl ⟨rfl, trivial⟩ rfl (fun wq_16 kq_16 => ?_)
          have zs_kq_16 := kq_16.size
          replace hb := hb.pure kq_16
          replace hw := hw.pure kq_16
          replace hB := hB.pure kq_16
          replace hI := hI.pure kq_16
          replace hd_2 := hd_2.pure kq_16
          replace hq := hq.pure kq_16
          refine WL.build (e := ewr) [((d, a), ⟨some ⟨gq, 0, none⟩, cq, b⟩)] Tryz.underlying77 Tryz.sizeOf105 Tryz.zeroValue105 rfl rfl rfl (by simp [Value.cells] <;> rfl) (by decide) rfl ?_
          intro a_b43 w_b43 b43 l_b43 z_b43 k_b43
          have zs_k_b43 := k_b43.size
          replace hb := hb.pure k_b43
          replace hw := hw.pure k_b43
          replace hB := hB.pure k_b43
          replace hI := hI.pure k_b43
          replace hd_2 := hd_2.pure k_b43
          replace hq := hq.pure k_b43
          refine WL.nil (WX.one ⟨hd_2, ?_⟩)
          refine ⟨?_, trivial, trivial⟩
          refine DT.step [(36, _), (43, _)] rfl ⟨rfl, rfl, trivial⟩ rfl (fun wq_17 kq_17 => ?_)
          have zs_kq_17 := kq_17.size
          replace hb := hb.pure kq_17
          replace hw := hw.pure kq_17
          replace hB := hB.pure kq_17
          replace hI := hI.pure kq_17
          replace hd_2 := hd_2.pure kq_17
          replace hq := hq.pure kq_17
          replace b43 := b43.pure kq_17
          refine WL.append (e := ewr) info_105 rfl Tryz.underlying77 rfl rfl hI.waits (b43.rsl.src Tryz.underlying77) (by constructor <;> (simp only [List.length_cons, List.length_nil]; omega)) (fun x hx => ⟨.inr (by omega), by omega⟩) rfl ?_
          intro ao9 c9 w9 hb9 gg9 n9
          have hq9 : Row (fun x => (A x ∨ w.heap.size ≤ x) ∧ x ≠ R) _ 5 eb (some ⟨gq, 0, none⟩) cq b := hq.mono (fun x hx => ⟨.inr (by omega), by omega⟩)
          have hI9 := hI.setWaits hb9 gg9.chg (fun x hx => hx.1) (fun p hp => by
            rcases List.mem_append.1 hp with h3 | h3
            ·
              exact .inl ⟨p, h3, rfl⟩
            ·
              simp at h3
              right
              rw [h3]
              exact hq9)
          have gk : Chg (fun x => (A x ∨ w.heap.size ≤ x) ∧ x ≠ R) _ w9 := gg9.chg.mono (fun x _ hx => hx.2)
          have zs_gk := gk.size
          replace hw := hw.chg gk (by intro x h1 h2; rcases h2.1 with h3 | h3; exact h3; exfalso; omega)
          replace hB := hB.chg gk (by intro h1; exfalso; have h4 := h1.2; (try dsimp only at *); omega)
          replace hd_2 := hd_2.chg gk (by intro x h1 h2; exact h2.1)
          refine WL.nil (WX.one ⟨hd_2, ?_⟩)
          refine ⟨?_, trivial⟩
          refine DT.step [(46, _), (44, _)] rfl ⟨rfl, rfl, trivial⟩ rfl (fun wq_18 kq_18 => ?_)
          have zs_kq_18 := kq_18.size
          replace hw := hw.pure kq_18
          replace hB := hB.pure kq_18
          replace hd_2 := hd_2.pure kq_18
          replace hI9 := hI9.pure kq_18
          refine WL.store Tryz.sizeOf77 hB rfl rfl rfl rfl ?_
          intro w_19 hs_19 hn_19 k_19
          have zs_k_19 := k_19.size
          replace hw := hw.chg k_19 (by intro x h1 h2; have h3 : _ = _ := h2; subst h3; assumption)
          replace hd_2 := hd_2.chg k_19 (by intro x h1 h2; have h3 : _ = _ := h2; subst h3; assumption)
          replace hI9 := hI9.chg k_19 (by intro b h1 h2 h3; have h4 : _ = _ := h3; (try dsimp only at h2); exfalso; omega)
          replace hB := hn_19
          refine WL.nil (WX.one0 (v := undef) ⟨hd_2, ?_⟩)
          refine DT.done (fun we_20 ke_20 => ?_) _
          have zs_ke_20 := ke_20.size
          replace hw := hw.pure ke_20
          replace hB := hB.pure ke_20
          replace hd_2 := hd_2.pure ke_20
          replace hI9 := hI9.pure ke_20
          rotate_left
          refine DT.step [(42, _)] rfl ⟨rfl, trivial⟩ rfl (fun wq_15 kq_15 => ?_)
          have zs_kq_15 := kq_15.size
          replace hb := hb.pure kq_15
          replace hw := hw.pure kq_15
          replace hB := hB.pure kq_15
          replace hI := hI.pure kq_15
          replace hd_2 := hd_2.pure kq_15
          replace hq := hq.pure kq_15
          refine WL.build (e := ewr) [((d, a), ⟨some ⟨gq, 0, none⟩, cq, b⟩)] Tryz.underlying77 Tryz.sizeOf105 Tryz.zeroValue105 rfl rfl rfl (by simp [Value.cells] <;> rfl) (by decide) rfl ?_
          intro a_b43 w_b43 b43 l_b43 z_b43 k_b43
          have zs_k_b43 := k_b43.size
          replace hb := hb.pure k_b43
          replace hw := hw.pure k_b43
          replace hB := hB.pure k_b43
          replace hI := hI.pure k_b43
          replace hd_2 := hd_2.pure k_b43
          replace hq := hq.pure k_b43
          refine WL.nil (WX.one ⟨hd_2, ?_⟩)
          refine ⟨?_, trivial, trivial, trivial⟩
          refine DT.step [(35, _)] rfl ⟨rfl, trivial⟩ rfl (fun wq_16 kq_16 => ?_)
          have zs_kq_16 := kq_16.size
          replace hb := hb.pure kq_16
          replace hw := hw.pure kq_16
          replace hB := hB.pure kq_16
          replace hI := hI.pure kq_16
          replace hd_2 := hd_2.pure kq_16
          replace hq := hq.pure kq_16
          replace b43 := b43.pure kq_16
          refine WL.loadB Tryz.isAgg77 hB rfl rfl rfl (?_)
          refine WL.nil (WX.one ⟨hd_2, ?_⟩)
          refine ⟨?_, trivial, trivial⟩
          refine DT.step [(36, _), (43, _)] rfl ⟨rfl, rfl, trivial⟩ rfl (fun wq_17 kq_17 => ?_)
          have zs_kq_17 := kq_17.size
          replace hb := hb.pure kq_17
          replace hw := hw.pure kq_17
          replace hB := hB.pure kq_17
          replace hI := hI.pure kq_17
          replace hd_2 := hd_2.pure kq_17
          replace hq := hq.pure kq_17
          replace b43 := b43.pure kq_17
          refine WL.append (e := ewr) info_105 rfl Tryz.underlying77 rfl rfl hI.waits (b43.rsl.src Tryz.underlying77) (by constructor <;> (simp only [List.length_cons, List.length_nil]; omega)) (fun x hx => ⟨.inr (by omega), by omega⟩) rfl ?_
          intro ao9 c9 w9 hb9 gg9 n9
          have hq9 : Row (fun x => (A x ∨ w.heap.size ≤ x) ∧ x ≠ R) _ 5 eb (some ⟨gq, 0, none⟩) cq b := hq.mono (fun x hx => ⟨.inr (by omega), by omega⟩)
          have hI9 := hI.setWaits hb9 gg9.chg (fun x hx => hx.1) (fun p hp => by
            rcases List.mem_append.1 hp with h3 | h3
            ·
              exact .inl ⟨p, h3, rfl⟩
            ·
              simp at h3
              right
              rw [h3]
              exact hq9)
          have gk : Chg (fun x => (A x ∨ w.heap.size ≤ x) ∧ x ≠ R) _ w9 := gg9.chg.mono (fun x _ hx => hx.2)
          have zs_gk := gk.size
          replace hw := hw.chg gk (by intro x h1 h2; rcases h2.1 with h3 | h3; exact h3; exfalso; omega)
          replace hB := hB.chg gk (by intro h1; exfalso; have h4 := h1.2; (try dsimp only at *); omega)
          replace hd_2 := hd_2.chg gk (by intro x h1 h2; exact h2.1)
          refine WL.nil (WX.one ⟨hd_2, ?_⟩)
          refine ⟨?_, trivial⟩
          refine DT.step [(46, _), (44, _)] rfl ⟨rfl, rfl, trivial⟩ rfl (fun wq_18 kq_18 => ?_)
          have zs_kq_18 := kq_18.size
          replace hw := hw.pure kq_18
          replace hB := hB.pure kq_18
          replace hd_2 := hd_2.pure kq_18
          replace hI9 := hI9.pure kq_18
          refine WL.store Tryz.sizeOf77 hB rfl rfl rfl rfl ?_
          intro w_19 hs_19 hn_19 k_19
          have zs_k_19 := k_19.size
          replace hw := hw.chg k_19 (by intro x h1 h2; have h3 : _ = _ := h2; subst h3; assumption)
          replace hd_2 := hd_2.chg k_19 (by intro x h1 h2; have h3 : _ = _ := h2; subst h3; assumption)
          replace hI9 := hI9.chg k_19 (by intro b h1 h2 h3; have h4 : _ = _ := h3; (try dsimp only at h2); exfalso; omega)
          replace hB := hn_19
          refine WL.nil (WX.one0 (v := undef) ⟨hd_2, ?_⟩)
          refine DT.done (fun we_20 ke_20 => ?_) _
          have zs_ke_20 := ke_20.size
          replace hw := hw.pure ke_20
          replace hB := hB.pure ke_20
          replace hd_2 := hd_2.pure ke_20
          replace hI9 := hI9.pure ke_20
          rotate_left
          all_goals
            refine WX.then_normal (WC.seq (WC.region (WL.assign rfl rfl (WL.nil (WX.then_normal (WC.ret (?_)))))))
            refine WX.ret1 (.inl rfl) Tryz.results31 rfl ?_
            have hh2 : b.length = 128 := by omega
            have e0 : writeE s d a b.length = 0 := by simp [writeE, h12, hh2, hg, ho]
            refine ⟨_, rfl, by rw [e0], ⟨aR2, hwok, m, ga, gc, ao9, c9, ws ++ [((d, a), ⟨some ⟨gq, 0, none⟩, cq, b⟩)], ls, Eq.mp (congrArg (Blk _ R 79) ?_) hB, ?_, ?_, ?_⟩, hw⟩
            ·
              simp [writeS, e0]
            ·
              simp only [writeS, e0, if_true]
              exact hI9.mono (fun x hx => hx.1)
            ·
              simp only [writeS, e0, if_true]
              exact hls
            ·
              simp only [writeS, e0, if_true]
              rw [spendS_waits] at hws
              rw [hws]
              simp [xsm]
        ·
          refine WL.not rfl rfl (WL.assign rfl rfl (WL.nil (WX.then_normal (WC.cond_true rfl (WC.seq (WC.region (WL.assign rfl rfl (?_))))))))
          refine WL.nil (WX.then_normal (WC.ret (WX.block_ret (WX.then_ret (?_)))))
          refine WX.ret1 (.inl rfl) Tryz.results31 rfl ?_
          have hh : offS s = true := ho
          have hh2 : b.length = 128 := by omega
          exact ⟨_, rfl, by simp [writeE, h12, hh2, hg, ho], by rw [show writeS s d a b = spendS s from by simp [writeS, writeE, h12, hh2, hg, ho]]; exact h2.mono (fun x hx => .inl hx), hw⟩
      ·
        refine WL.assign rfl rfl (WL.nil (WX.then_normal (WC.cond_true rfl (WC.seq (WC.region (WL.assign rfl rfl (WL.nil (?_))))))))
        refine WX.then_normal (WC.ret (WX.block_ret (WX.then_ret (?_))))
        refine WX.ret1 (.inl rfl) Tryz.results31 rfl ?_
        have hh : goneS s d = true := hg
        have hh2 : b.length = 128 := by omega
        exact ⟨_, rfl, by simp [writeE, h12, hh2, hg], by rw [show writeS s d a b = s from by simp [writeS, writeE, h12, hh2, hg]]; exact h.mono (fun x hx => .inl hx), hw⟩
  ·
    rw [show decide (0 ≤ d ∧ d < (s.dn : Int) ∧ 0 ≤ a ∧ a < (s.sn : Int)) = false from decide_eq_false h12]
    refine WL.not rfl rfl (WL.move rfl rfl (WL.pass rfl rfl rfl rfl (WL.pass rfl rfl rfl rfl (WL.pass rfl rfl rfl rfl (WL.pickT rfl rfl rfl (WL.assign rfl rfl (WL.nil (?_))))))))
    refine WX.then_normal (WC.cond_true rfl (WC.seq (WC.region (WL.assign rfl rfl (WL.nil (WX.then_normal (WC.ret (?_))))))))
    refine WX.block_ret (WX.then_ret (?_))
    refine WX.ret1 (.inl rfl) Tryz.results31 rfl ?_
    have hh : ¬ inS s d a := h12
    exact ⟨_, rfl, by simp [writeE, h12], by rw [show writeS s d a b = s from by simp [writeS, writeE, h12]]; exact h.mono (fun x hx => .inl hx), hw⟩
end Go.Proofs.YtggecdldnpildaaGreat
namespace Go.Proofs.YtggecdldnpildaaGreat
open Go.RowKit Go.HL
set_option maxRecDepth 100000

/-! writes that come to last, those that kp tells -/
def puts {V : Type} (kp : Nat → Bool) (ws l : List (Pl × V)) : Nat → List (Pl × V)
  | 0 => l
  | i + 1 => match ws[i]? with
    | some x => if kp i = true then mput (puts kp ws l i) x.1 x.2 else puts kp ws l i
    | none => puts kp ws l i
theorem puts_yes {V : Type} {kp : Nat → Bool} {ws l : List (Pl × V)} {i : Nat} {x : Pl × V} (hx : ws[i]? = some x) (hk : kp i = true) : puts kp ws l (i + 1) = mput (puts kp ws l i) x.1 x.2 := by simp [puts, hx, hk]
theorem puts_not {V : Type} {kp : Nat → Bool} {ws l : List (Pl × V)} {i : Nat} {x : Pl × V} (hx : ws[i]? = some x) (hk : kp i = false) : puts kp ws l (i + 1) = puts kp ws l i := by simp [puts, hx, hk]
theorem xsm_at (l : List (Pl × Rw)) (i : Nat) : (xsm l)[i]? = (l[i]?).map fun p => (p.1, p.2.xs) := by simp [xsm]
theorem xsm_puts (kp : Nat → Bool) (ws l : List (Pl × Rw)) (i : Nat) : xsm (puts kp ws l i) = puts kp (xsm ws) (xsm l) i := by
  induction i with
  | zero => rfl
  | succ i ih =>
    simp only [puts, xsm_at]
    cases h : ws[i]? with
    | none => simpa using ih
    | some x =>
      simp only [Option.map_some]
      split
      · rw [xsm_put, ih]
      · exact ih
theorem puts_nodup {V : Type} {kp : Nat → Bool} {ws l : List (Pl × V)} (h : (l.map (·.1)).Nodup) (i : Nat) : ((puts kp ws l i).map (·.1)).Nodup := by
  induction i with
  | zero => exact h
  | succ i ih =>
    simp only [puts]
    split
    · split
      · exact mput_nodup ih
      · exact ih
    · exact ih
theorem puts_mem {V : Type} {kp : Nat → Bool} {ws l : List (Pl × V)} {i : Nat} {x : Pl × V} (h : x ∈ puts kp ws l i) : x ∈ l ∨ x ∈ ws := by
  induction i with
  | zero => exact .inl h
  | succ i ih =>
    simp only [puts] at h
    split at h
    · rename_i y hy
      split at h
      · rcases mput_mem h with h1 | h1
        · exact ih h1
        · subst h1
          exact .inr (List.mem_of_getElem? hy)
      · exact ih h
    · exact ih h
theorem RI.noWaits {S : Nat → Prop} {w : World} {m : Nat} {ga : Option Addr} {gc : Nat} {wa : Option Addr} {wc : Nat} {gl : List Bool} {ws ls : List (Pl × Rw)} (h : RI S w m ga gc wa wc gl ws ls) : RI S w m ga gc none 0 gl [] ls :=
  ⟨h.sm, h.map, h.gone, Row.nil _ _ _ _, h.byl, fun p hp => by simp at hp⟩
/-- all that waits comes to last -/
def flushS (s : RA) : RA := if offS s = true then spendS s else { spendS s with last := puts (fun _ => true) s.waits s.last s.waits.length, waits := [] }
theorem flushS_ok {s : RA} (h : s.ok) : (flushS s).ok := by
  have h1 := spendS_ok h
  unfold flushS
  split
  · exact h1
  · refine ⟨h1.dn, h1.sn, h1.gl, fun p hp => ?_, fun p hp => by simp at hp, h1.lf, puts_nodup h.nd _⟩
    rcases puts_mem hp with h2 | h2
    · exact h.ll p h2
    · exact h.lw p h2
theorem Flush_calls {A : Nat → Prop} {w : World} {R : Nat} {s : RA} (h : RK A w R s) :
    Calls Tryz.prog 23 [ptr R].toArray w (Ret fun v w' => v = vi (if offS s = true then 16 else 0) ∧ RK A w' R (flushS s) ∧ Chg A w w') := by
  have aR := h.aR
  have hok := h.ok
  have hfok := flushS_ok h.ok
  have hw := Chg.refl A w
  refine Calls.of_WC Tryz.func23 rfl Tryz.ntmps23 (by simp) ?_
  refine WC.seq (WC.region (WL.assign rfl rfl (WL.nil (WX.then_normal (WC.seq (WC.block (WC.seq (?_))))))))
  refine WC.region (WL.move rfl rfl (?_))
  refine WL.ptrNil Tryz.underlying27 rfl rfl rfl ?_
  refine WL.assign rfl rfl (WL.nil (WX.then_normal (WC.cond_false rfl (WC.seq (WC.region (WL.move rfl rfl (?_)))))))
  refine WL.call eg_55 rfl rfl (spend_calls h) ?_
  rintro v w2 ⟨rfl, h2, k2, z2⟩
  have zs_k2 := k2.size
  replace hw := hw.chg k2 (by intro x h1 h2; have h3 : _ = _ := h2; subst h3; assumption)
  rcases ho : offS s with _ | _
  ·
    obtain ⟨m, ga, gc, wa, wc, ws, ls, hB, hI, hls, hws⟩ := h2.old.ex
    have am : A m := hI.sm.1
    replace hI := hI.open hB
    have hmR : m ≠ R := hI.sm.2
    have lR := hB.lt
    have lm := hI.map.lt
    have hcap := hI.waits.own.cap
    have hwl : ws.length ≤ 9223372036854775807 := by
      rcases hI.waits.own.2.2 with ⟨_, h⟩ | ⟨_, _, _, _, _, _, h, _⟩
      ·
        omega
      ·
        simp only [maxLen] at h; omega
    refine WL.not rfl rfl (WL.assign rfl rfl (WL.nil (WX.then_normal (WC.cond_false rfl (WC.skip (WX.block_normal (WX.then_normal (?_))))))))
    refine WC.seq (WC.seq (WC.region (WL.move rfl rfl (WL.nilCheck rfl rfl (WL.fieldAddr (fld_79_4) rfl rfl (WL.loadB Tryz.isAgg77 hB rfl rfl rfl (WL.len Tryz.underlying77 rfl rfl (?_))))))))
    refine WL.move rfl rfl (WL.nil (WX.then_normal (WC.block (?_))))
    have zw := hw.size
    refine WC.loop (σ := Nat) (fun i => [(0, ptr R), (15, .slice wa ws.length wc), (16, vi ws.length), (17, vi (i : Int))]) (fun i w' => i ≤ ws.length ∧ Blk w' R 79 (rcells (spendS s) m ga gc wa wc ws.length) ∧ RI (fun b => (A b ∧ b < w2.heap.size) ∧ b ≠ R) w' m ga gc wa wc (spendS s).gone ws (puts (fun _ => true) ws ls i) ∧ Chg A w w' ∧ w2.heap.size ≤ w'.heap.size) (fun i => ws.length - i) 0 ⟨rfl, rfl, rfl, rfl, trivial⟩ ⟨Nat.zero_le _, hB, hI, hw, Nat.le_refl _⟩ ?_
    clear hB hI hw
    rintro i w1 ⟨hi, hB, hI, hw, z1⟩
    refine WC.seq (WC.region (?_))
    refine WL.lss? rfl rfl rfl (fun h18 => ?_) (fun h18 => ?_)
    ·
      refine WL.nil (WX.then_normal (WC.seq (WC.cond_true rfl (WC.skip (WX.then_normal (WC.seq (WC.block (?_))))))))
      refine WC.seq (WC.region (?_))
      have hi2 : i < ws.length := by omega
      have hx : ws[i]? = some ws[i] := List.getElem?_eq_getElem hi2
      obtain ⟨x, ex⟩ : ∃ x, x = ws[i] := ⟨_, rfl⟩
      rw [← ex] at hx
      refine WL.indexT (e := ewr) Tryz.underlying77 Tryz.sizeOf105 hI.waits.rsl rfl rfl ⟨hx, rfl⟩ rfl ?_
      intro bb oo hcc
      refine WL.loads _ Tryz.isAgg105 Tryz.sizeOf105 rfl hcc rfl rfl (?_)
      refine WL.alloc Tryz.zeroValue105 rfl ?_
      intro g_1 w_1 hge_1 hlt_1 hb_1 k_1
      have zs_k_1 := k_1.size
      replace hw := hw.pure k_1
      replace hB := hB.pure k_1
      replace hI := hI.pure k_1
      refine WL.stores Tryz.sizeOf105 hb_1 rfl rfl (by rfl) (by exact Enc.one _ _) (by exact Nat.le_of_ble_eq_true rfl) rfl ?_
      intro w_2 hs_2 hn_2 k_2
      have zs_k_2 := k_2.size
      replace hw := hw.chg k_2 (by intro x h1 h2; have h3 : _ = _ := h2; exfalso; omega)
      replace hB := hB.chg k_2 (by intro h1; have h2 : _ = _ := h1; exfalso; omega)
      replace hI := hI.chg k_2 (by intro b h1 h2 h3; have h4 : _ = _ := h3; (try dsimp only at h2); exfalso; omega)
      replace hb_1 := hn_2
      refine WL.nil (WX.then_normal (?_))
      have hb8 : Blk _ g_1 105 [vi x.1.1, vi x.1.2, vsl x.2] := hb_1
      refine WC.draw ((fun x => x = m)) [0, 1, 2, 3, 4, 5, 6, 7] [8] mixed rfl rfl (fun wd_3 kd_3 zd_3 => ?_)
      have zs_kd_3 := kd_3.size
      replace hw := hw.pure kd_3
      replace hB := hB.pure kd_3
      replace hI := hI.pure kd_3
      replace hb8 := hb8.pure kd_3
      apply DQ.step (E' := [(0, _)])
      case ho => rfl
      case hs => exact ⟨rfl, trivial⟩
      case hk => rfl
      case h1 =>
        intro wq_5 kq_5
        refine WL.move rfl rfl (?_)
        refine WL.nil ?_
        exact WX.one ⟨rfl, by exact Chg.refl _ _⟩
      apply DQ.step (E' := [(21, _)])
      case ho => rfl
      case hs => exact ⟨rfl, trivial⟩
      case hk => rfl
      case h1 =>
        intro wq_6 kq_6
        refine WL.nilCheck rfl rfl (?_)
        refine WL.nil ?_
        exact WX.one ⟨rfl, by exact Chg.refl _ _⟩
      apply DQ.step (E' := [(22, _)])
      case ho => rfl
      case hs => exact ⟨rfl, trivial⟩
      case hk => rfl
      case h1 =>
        intro wq_7 kq_7
        refine WL.fieldAddr (fld_79_2) rfl rfl (?_)
        refine WL.nil ?_
        exact WX.one ⟨rfl, by exact Chg.refl _ _⟩
      apply DQ.step (E' := [(23, _)])
      case ho => rfl
      case hs => exact ⟨rfl, trivial⟩
      case hk => rfl
      case h1 =>
        intro wq_8 kq_8
        have zs_kq_8 := kq_8.size
        replace hw := hw.chg kq_8 (by intro x h1 h2; have h3 : _ = _ := h2; subst h3; assumption)
        replace hB := hB.chg kq_8 (by intro h1; have h2 : _ = _ := h1; exfalso; omega)
        replace hb8 := hb8.chg kq_8 (by intro h1; have h2 : _ = _ := h1; exfalso; omega)
        refine WL.loadB Tryz.isAgg76 hB rfl rfl rfl (?_)
        refine WL.nil ?_
        exact WX.one ⟨rfl, by exact Chg.refl _ _⟩
      apply DQ.step (E' := [(4, _)])
      case ho => rfl
      case hs => exact ⟨rfl, trivial⟩
      case hk => rfl
      case h1 =>
        intro wq_9 kq_9
        refine WL.fieldAddr (fld_105_0) rfl rfl (?_)
        refine WL.nil ?_
        exact WX.one ⟨rfl, by exact Chg.refl _ _⟩
      apply DQ.step (E' := [(25, _)])
      case ho => rfl
      case hs => exact ⟨rfl, trivial⟩
      case hk => rfl
      case h1 =>
        intro wq_10 kq_10
        have zs_kq_10 := kq_10.size
        replace hw := hw.chg kq_10 (by intro x h1 h2; have h3 : _ = _ := h2; subst h3; assumption)
        replace hB := hB.chg kq_10 (by intro h1; have h2 : _ = _ := h1; exfalso; omega)
        replace hb8 := hb8.chg kq_10 (by intro h1; have h2 : _ = _ := h1; exfalso; omega)
        refine WL.loads [vi x.1.1, vi x.1.2] Tryz.isAgg103 Tryz.sizeOf103 rfl (fun q v hv => ?_) rfl rfl ?_
        ·
          refine hb8.cell (j := 0 + 0 + q) ?_
          match q, hv with
          | 0, hv => exact hv
          | 1, hv => exact hv
        refine WL.nil ?_
        exact WX.one ⟨rfl, by exact Chg.refl _ _⟩
      apply DQ.step (E' := [(4, _)])
      case ho => rfl
      case hs => exact ⟨rfl, trivial⟩
      case hk => rfl
      case h1 =>
        intro wq_11 kq_11
        refine WL.fieldAddr (fld_105_1) rfl rfl (?_)
        refine WL.nil ?_
        exact WX.one ⟨rfl, by exact Chg.refl _ _⟩
      apply DQ.step (E' := [(27, _)])
      case ho => rfl
      case hs => exact ⟨rfl, trivial⟩
      case hk => rfl
      case h1 =>
        intro wq_12 kq_12
        have zs_kq_12 := kq_12.size
        replace hw := hw.chg kq_12 (by intro x h1 h2; have h3 : _ = _ := h2; subst h3; assumption)
        replace hB := hB.chg kq_12 (by intro h1; have h2 : _ = _ := h1; exfalso; omega)
        replace hb8 := hb8.chg kq_12 (by intro h1; have h2 : _ = _ := h1; exfalso; omega)
        refine WL.loadB Tryz.isAgg26 hb8 rfl rfl rfl (?_)
        refine WL.nil ?_
        exact WX.one ⟨rfl, by exact Chg.refl _ _⟩
      refine DQ.done (fun hd_4 => ?_)
      refine DL.step [(24, _), (26, _), (28, _)] rfl ⟨rfl, rfl, rfl, trivial⟩ rfl (fun wq_13 kq_13 => ?_)
      have zs_kq_13 := kq_13.size
      replace hw := hw.pure kq_13
      replace hB := hB.pure kq_13
      replace hI := hI.pure kq_13
      replace hb8 := hb8.pure kq_13
      replace hd_4 := hd_4.pure kq_13
      refine WL.mput (v := x.2) plOk Tryz.underlying76 hI.map rfl (show _ = some (kpl x.1) from rfl) (show _ = some (vsl x.2) from rfl) ?_
      intro w9 z9 hM9 k9
      have hI9 := hI.putMap hM9 k9 (fun p hp => by
        rcases mput_mem hp with h3 | h3
        ·
          exact .inl ⟨p, h3, rfl⟩
        ·
          subst h3
          exact .inr ⟨x, List.mem_of_getElem? hx, rfl⟩)
      rw [← puts_yes (kp := fun _ => true) hx rfl] at hI9
      have zs_k9 := k9.size
      replace hw := hw.chg k9 (by intro x h1 h2; have h3 : _ = _ := h2; subst h3; assumption)
      replace hB := hB.chg k9 (by intro h1; have h2 : _ = _ := h1; exfalso; omega)
      replace hb8 := hb8.chg k9 (by intro h1; have h2 : _ = _ := h1; exfalso; omega)
      replace hd_4 := hd_4.chg k9 (by intro x h1 h2; exact h2)
      refine WL.nil ?_
      refine WX.one0 (v := undef) ⟨hd_4, ?_⟩
      refine DL.done (fun we_14 ke_14 => ?_)
      have zs_ke_14 := ke_14.size
      replace hw := hw.pure ke_14
      replace hB := hB.pure ke_14
      replace hb8 := hb8.pure ke_14
      replace hd_4 := hd_4.pure ke_14
      replace hI9 := hI9.pure ke_14
      refine WX.block_normal (WX.then_normal (WC.region (WL.add64 rfl rfl (by omega) rfl (WL.move rfl rfl (WL.nil (?_))))))
      exact WX.loop_next (i + 1) ⟨rfl, rfl, rfl, rfl, trivial⟩ ⟨by omega, hB, hI9, hw, by omega⟩ (by omega)
    ·
      refine WL.nil (WX.then_normal (WC.seq (WC.cond_false rfl (WC.exit (WX.then_exit (WX.then_exit (WX.block_here (?_))))))))
      refine WX.then_normal (WC.seq (WC.region (WL.move rfl rfl (WL.nilCheck rfl rfl (WL.fieldAddr (fld_79_4) rfl rfl (?_))))))
      refine WL.store Tryz.sizeOf77 hB rfl rfl rfl rfl ?_
      intro w_1 hs_1 hn_1 k_1
      have zs_k_1 := k_1.size
      replace hw := hw.chg k_1 (by intro x h1 h2; have h3 : _ = _ := h2; subst h3; assumption)
      replace hI := hI.chg k_1 (by intro b h1 h2 h3; have h4 : _ = _ := h3; (try dsimp only at h2); exfalso; omega)
      replace hB := hn_1
      refine WL.nil (WX.then_normal (WC.seq (WC.region (WL.assign rfl rfl (WL.nil (WX.then_normal (WC.ret (?_))))))))
      refine WX.ret1 (.inl rfl) Tryz.results23 rfl ?_
      have hil : i = ws.length := by omega
      subst hil
      rw [spendS_waits] at hws
      rw [spendS_last] at hls
      refine ⟨_, rfl, rfl, ⟨aR, hfok, m, ga, gc, none, 0, [], puts (fun _ => true) ws ls ws.length, Eq.mp (congrArg (Blk _ R 79) ?_) hB, ?_, ?_, ?_⟩, hw⟩
      ·
        simp [flushS, ho]
      ·
        simp only [flushS, ho]
        exact (hI.mono (fun x hx => hx.1.1)).noWaits
      ·
        simp only [flushS, ho]
        rw [xsm_puts, hls, hws, xsm_len]
        rfl
      ·
        simp [flushS, ho, xsm]
  ·
    refine WL.not rfl rfl (WL.assign rfl rfl (WL.nil (WX.then_normal (WC.cond_true rfl (WC.seq (WC.region (WL.assign rfl rfl (?_))))))))
    refine WL.nil (WX.then_normal (WC.ret (WX.block_ret (WX.then_ret (?_)))))
    refine WX.ret1 (.inl rfl) Tryz.results23 rfl ?_
    have hh : offS s = true := ho
    refine ⟨_, rfl, rfl, ?_, hw⟩
    rw [show flushS s = spendS s from by simp [flushS, ho]]
    exact h2
end Go.Proofs.YtggecdldnpildaaGreat
namespace Go.Proofs.YtggecdldnpildaaGreat
open Go.RowKit Go.HL
set_option maxRecDepth 100000

/-! the power goes off later -/
/-! the power goes off and comes back -/
def keep (ps : List Int) (i : Nat) : Bool := match ps[i]? with
  | some x => decide (x % 2 = 1)
  | none => false
/-! a new rack -/
def newS (dn sn : Nat) : RA := ⟨dn, sn, [], List.replicate dn false, [], false, false, 0⟩
theorem newS_ok {dn sn : Nat} (hd : 1 ≤ dn ∧ dn ≤ 16) (hs : 1 ≤ sn ∧ sn ≤ 2000) : (newS dn sn).ok :=
  ⟨hd, hs, by simp [newS], fun p hp => by simp [newS] at hp, fun p hp => by simp [newS] at hp, ⟨fun h => by simp [newS] at h, by simp [newS], by simp [newS]⟩, by simp [newS]⟩
theorem New_calls (w : World) {dn sn : Nat} (hd : 1 ≤ dn ∧ dn ≤ 16) (hs : 1 ≤ sn ∧ sn ≤ 2000) :
    Calls Tryz.prog 13 [vi dn, vi sn].toArray w (Ret fun v w' => (∃ R, v = .tuple #[ptr R, vi 0] ∧ RK (w.heap.size ≤ ·) w' R (newS dn sn)) ∧ Chg Nob w w') := by
  have hw := Chg.refl Nob w
  refine Calls.of_WC Tryz.func13 rfl Tryz.ntmps13 (by simp) ?_
  refine WC.seq (WC.region (WL.assign rfl rfl (WL.assign rfl rfl (WL.nil (WX.then_normal (WC.seq (WC.seq (?_))))))))
  refine WC.region (WL.move rfl rfl (?_))
  refine WL.lss? rfl rfl rfl (fun h7 => ?_) (fun h7 => ?_)
  ·
    refine WL.move rfl rfl (WL.pass rfl rfl rfl rfl (WL.pass rfl rfl rfl rfl (WL.pickT rfl rfl rfl (WL.move rfl rfl (WL.pass rfl rfl rfl rfl (WL.pass rfl rfl rfl rfl (WL.pickT rfl rfl rfl (?_))))))))
    refine WL.move rfl rfl (WL.pass rfl rfl rfl rfl (WL.pass rfl rfl rfl rfl (WL.pickT rfl rfl rfl (WL.nil (WX.then_normal (WC.cond_true rfl (WC.seq (?_))))))))
    refine WC.region (WL.assign rfl rfl (WL.assign rfl rfl (WL.nil (WX.then_normal (WC.ret (WX.then_ret (?_)))))))
    refine WX.ret2 (.inl rfl) Tryz.results13 rfl rfl ?_
    exfalso; omega
  ·
    refine WL.move rfl rfl (WL.want rfl rfl rfl (WL.move rfl rfl (WL.want rfl rfl rfl (?_))))
    refine WL.gtr? rfl rfl rfl (fun h10 => ?_) (fun h10 => ?_)
    ·
      refine WL.pickF rfl rfl rfl (WL.move rfl rfl (WL.pass rfl rfl rfl rfl (WL.pass rfl rfl rfl rfl (WL.pickT rfl rfl rfl (WL.move rfl rfl (WL.pass rfl rfl rfl rfl (WL.pass rfl rfl rfl rfl (?_))))))))
      refine WL.pickT rfl rfl rfl (WL.nil (WX.then_normal (WC.cond_true rfl (WC.seq (WC.region (WL.assign rfl rfl (WL.assign rfl rfl (?_))))))))
      refine WL.nil (WX.then_normal (WC.ret (WX.then_ret (?_))))
      refine WX.ret2 (.inl rfl) Tryz.results13 rfl rfl ?_
      exfalso; omega
    ·
      refine WL.pickF rfl rfl rfl (WL.move rfl rfl (WL.want rfl rfl rfl (WL.move rfl rfl (WL.want rfl rfl rfl (?_)))))
      refine WL.lss? rfl rfl rfl (fun h14 => ?_) (fun h14 => ?_)
      ·
        refine WL.pickF rfl rfl rfl (WL.move rfl rfl (WL.pass rfl rfl rfl rfl (WL.pass rfl rfl rfl rfl (WL.pickT rfl rfl rfl (WL.nil (WX.then_normal (WC.cond_true rfl (?_))))))))
        refine WC.seq (WC.region (WL.assign rfl rfl (WL.assign rfl rfl (WL.nil (WX.then_normal (WC.ret (WX.then_ret (?_))))))))
        refine WX.ret2 (.inl rfl) Tryz.results13 rfl rfl ?_
        exfalso; omega
      ·
        refine WL.pickF rfl rfl rfl (WL.move rfl rfl (WL.want rfl rfl rfl (WL.move rfl rfl (WL.want rfl rfl rfl (?_)))))
        refine WL.gtr? rfl rfl rfl (fun h18 => ?_) (fun h18 => ?_)
        ·
          refine WL.pickF rfl rfl rfl (WL.nil (WX.then_normal (WC.cond_true rfl (WC.seq (WC.region (WL.assign rfl rfl (WL.assign rfl rfl (?_))))))))
          refine WL.nil (WX.then_normal (WC.ret (WX.then_ret (?_))))
          refine WX.ret2 (.inl rfl) Tryz.results13 rfl rfl ?_
          exfalso; omega
        ·
          refine WL.pickF rfl rfl rfl (WL.nil (WX.then_normal (WC.cond_false rfl (WC.skip (WX.then_normal (WC.seq (WC.region (?_))))))))
          refine WL.move rfl rfl (WL.move rfl rfl (?_))
          refine WL.makeMap (kv := kpl) (vv := vsl) rfl ?_
          intro m w1 em lm hM k1
          have zs_k1 := k1.size
          replace hw := hw.pure k1
          refine WL.move rfl rfl (?_)
          refine WL.make (e := ebool) false dn dn Tryz.underlying55 info_4 rfl rfl rfl ⟨rfl, rfl, Nat.le_refl _⟩ (by constructor <;> omega) rfl ?_
          intro g3 w3 hm k3 z3 eg3
          have zs_k3 := k3.size
          replace hw := hw.pure k3
          replace hM := hM.pure k3
          refine WL.bld rfl (bld_79_0_1_2_3 _ _ _ _ _ _) rfl (?_)
          refine WL.box rfl rfl ?_
          intro g_1 w_1 hge_1 hlt_1 hb_1 k_1
          have zs_k_1 := k_1.size
          replace hw := hw.pure k_1
          replace hM := hM.pure k_1
          replace hm := hm.pure k_1
          refine WL.assign rfl rfl (WL.assign rfl rfl (WL.nil (WX.then_normal (WC.ret (?_)))))
          refine WX.ret2 (.inl rfl) Tryz.results13 rfl rfl ?_
          refine ⟨_, rfl, ⟨_, rfl, ⟨by omega, newS_ok hd hs, m, _, _, none, 0, [], [], hb_1, ⟨by omega, hM, hm.mono (fun x hx => by omega), Row.nil _ _ _ _, fun p hp => by simp at hp, fun p hp => by simp at hp⟩, rfl, rfl⟩⟩, hw⟩
end Go.Proofs.YtggecdldnpildaaGreat
namespace Go.Proofs.YtggecdldnpildaaGreat
open Go.RowKit Go.HL
set_option maxRecDepth 100000

/-! what the calls do to what is read -/
def zeros : List UInt8 := List.replicate 128 0
def lastS (s : RA) (p : Pl) : List UInt8 := (mget s.last p).getD zeros
theorem heldS_eq (s : RA) (p : Pl) : heldS s p = match newV s.waits p with | some b => b | none => lastS s p := rfl
theorem newV_snoc {V : Type} (ws : List (Pl × V)) (p q : Pl) (b : V) : newV (ws ++ [(p, b)]) q = if q = p then some b else newV ws q := by
  unfold newV
  rw [List.reverse_append]
  rfl
theorem mget_puts {V : Type} {kp : Nat → Bool} {ws l : List (Pl × V)} {i : Nat} {x : Pl × V} (hx : ws[i]? = some x) (q : Pl) : mget (puts kp ws l (i + 1)) q = if kp i = true ∧ q = x.1 then some x.2 else mget (puts kp ws l i) q := by
  cases hk : kp i
  · rw [puts_not hx hk]
    simp
  · rw [puts_yes hx hk, mget_put]
    simp
theorem mget_puts_all {V : Type} (ws l : List (Pl × V)) (q : Pl) : ∀ i, i ≤ ws.length → mget (puts (fun _ => true) ws l i) q = match newV (ws.take i) q with | some v => some v | none => mget l q := by
  intro i
  induction i with
  | zero => intro _; rfl
  | succ i ih =>
    intro hi
    have hx : ws[i]? = some ws[i] := List.getElem?_eq_getElem (by omega)
    rw [mget_puts hx, ih (by omega), List.take_add_one, hx]
    show _ = match newV (ws.take i ++ [(ws[i].1, ws[i].2)]) q with | some v => some v | none => mget l q
    rw [newV_snoc]
    by_cases h : q = ws[i].1 <;> simp [h]
structure Up (s : RA) : Prop where
  off : s.off = false
  armed : s.armed = false
theorem Up.offS {s : RA} (h : Up s) : offS s = false := by simp [Go.Proofs.YtggecdldnpildaaGreat.offS, h.off, h.armed]
theorem Up.spend {s : RA} (h : Up s) : spendS s = s := by
  have h1 := h.offS
  have h2 := h.armed
  unfold spendS
  rw [h1]
  obtain ⟨dn, sn, last, gone, waits, off, armed, left⟩ := s
  simp only at h2
  subst h2
  rfl
/-- one more that waits -/
def addS (s : RA) (p : Pl) (b : List UInt8) : RA := { s with waits := s.waits ++ [(p, b)] }
theorem Up.write {s : RA} (h : Up s) {d a : Int} {b : List UInt8} (hi : inS s d a) (hg : goneS s d = false) (hb : b.length = 128) : writeE s d a b.length = 0 ∧ writeS s d a b = addS s (d, a) b := by
  have h0 : writeE s d a b.length = 0 := writeE_0.2 ⟨hi, hb, hg, h.offS⟩
  refine ⟨h0, ?_⟩
  rw [writeS, if_pos h0, h.spend]
  rfl
theorem addS_held (s : RA) (p q : Pl) (b : List UInt8) : heldS (addS s p b) q = if q = p then b else heldS s q := by
  rw [heldS_eq, heldS_eq, show (addS s p b).waits = s.waits ++ [(p, b)] from rfl, newV_snoc]
  by_cases h : q = p <;> simp [h]
  rfl
theorem addS_up {s : RA} (h : Up s) (p : Pl) (b : List UInt8) : Up (addS s p b) := ⟨h.off, h.armed⟩
/-- all lasts -/
def allS (s : RA) : RA := { s with last := puts (fun _ => true) s.waits s.last s.waits.length, waits := [] }
theorem Up.flush {s : RA} (h : Up s) : flushS s = allS s := by
  unfold flushS
  rw [h.offS, h.spend]
  rfl
theorem allS_up {s : RA} (h : Up s) : Up (allS s) := ⟨h.off, h.armed⟩
theorem allS_last (s : RA) (q : Pl) : lastS (allS s) q = heldS s q := by
  rw [heldS_eq, lastS, show (allS s).last = puts (fun _ => true) s.waits s.last s.waits.length from rfl, mget_puts_all s.waits s.last q _ (Nat.le_refl _), List.take_length]
  cases newV s.waits q <;> rfl
theorem allS_held (s : RA) (q : Pl) : heldS (allS s) q = heldS s q := by
  rw [← allS_last s q]
  rfl
theorem newS_up (d n : Nat) : Up (newS d n) := ⟨rfl, rfl⟩
theorem newS_gone (d n : Nat) (x : Int) : goneS (newS d n) x = false := by
  rw [goneS, show (newS d n).gone = List.replicate d false from rfl, List.getD_eq_getElem?_getD, List.getElem?_replicate]
  split <;> rfl
theorem errS_up {s : RA} (h : Up s) {d a : Int} (hi : inS s d a) (hg : goneS s d = false) : errS s d a = 0 := by
  simp [errS, hi, hg, h.off]
theorem RK.ne {A S : Nat → Prop} {w : World} {R : Nat} {s : RA} {ao : Option Addr} {c : Nat} {xs : List UInt8} (h : RK A w R s) (hq : Row S w 5 eb ao c xs) : Row (fun x => S x ∧ x ≠ R) w 5 eb ao c xs := by
  obtain ⟨m, ga, gc, wa, wc, ws, ls, hB, -⟩ := h.ex
  have hk := hB.kb
  refine hq.kb.mono ?_
  rintro x ⟨h1, h2⟩
  refine ⟨h1, fun e => ?_⟩
  rw [e, hk] at h2
  exact absurd h2 (by decide)
end Go.Proofs.YtggecdldnpildaaGreat
namespace Go.Proofs.YtggecdldnpildaaGreat
open Go.RowKit Go.HL
set_option maxRecDepth 100000

/-! calls of a rack that has power -/
theorem RK.grow {A : Nat → Prop} {w w' : World} {R : Nat} {s : RA} (h : RK (fun x => A x ∨ w.heap.size ≤ x) w' R s) (hA : ∀ x, w.heap.size ≤ x → A x) : RK A w' R s := h.mono (fun x hx => hx.elim (fun h => h) (hA x))
theorem FlushU {A : Nat → Prop} {w : World} {R : Nat} {s : RA} (h : RK A w R s) (hu : Up s) :
    Calls Tryz.prog 23 [ptr R].toArray w (Ret fun v w' => v = vi 0 ∧ RK A w' R (allS s) ∧ Chg A w w') := by
  refine (Flush_calls h).mono ?_
  rintro e w' ⟨v, rfl, rfl, hR, k⟩
  rw [hu.flush] at hR
  exact ⟨_, rfl, by rw [hu.offS]; rfl, hR, k⟩
theorem ReadU {A : Nat → Prop} {w : World} {R : Nat} {s : RA} (h : RK A w R s) (hu : Up s) {d a : Int} (hi : inS s d a) (hg : goneS s d = false) :
    Calls Tryz.prog 30 [ptr R, vi d, vi a].toArray w (Ret fun v w' => (∃ r : Rw, v = .tuple #[vsl r, vi 0] ∧ r.xs = heldS s (d, a) ∧ RSl (· < w'.heap.size) w' eb r.ao r.cap r.xs) ∧ Chg Nob w w') := by
  refine (Read_calls h d a).mono ?_
  rintro e w' ⟨v, rfl, ⟨r, e, rfl, he, hx, -, hq⟩, k⟩
  have he0 : e = 0 := he.trans (errS_up hu hi hg)
  subst he0
  exact ⟨_, rfl, ⟨r, rfl, hx rfl, hq.rsl.old⟩, k⟩
end Go.Proofs.YtggecdldnpildaaGreat
namespace Go.Proofs.YtggecdldnpildaaGreat
open Go.RowKit Go.HL
set_option maxRecDepth 100000

/-! writes that wait and are of a drive are lost -/
abbrev fnDel (g : Nat) : Value := .func (.func 68) #[] #[ptr g]
theorem del_calls {w : World} {g : Nat} {d : Int} (hD : Blk w g 3 [vi d]) (x : Pl × Rw) : Calls Tryz.prog 68 [.agg (ewr.f x).toArray, ptr g].toArray w (Ret fun v w' => v = .bool (decide (x.1.1 = d)) ∧ Chg Nob w w') := by
  have hw := Chg.refl Nob w
  refine Calls.of_WC Tryz.func68 rfl Tryz.ntmps68 (by simp) ?_
  refine WC.seq (WC.region (?_))
  refine WL.box rfl rfl ?_
  intro g_1 w_1 hge_1 hlt_1 hb_1 k_1
  have zs_k_1 := k_1.size
  replace hD := hD.pure k_1
  replace hw := hw.pure k_1
  refine WL.assign rfl rfl (WL.nil (WX.then_normal (WC.seq (WC.region (WL.fieldAddr (fld_105_0) rfl rfl (WL.fieldAddr (fld_103_0) rfl rfl (WL.loadB Tryz.isAgg3 hb_1 rfl rfl rfl (?_))))))))
  refine WL.loadB Tryz.isAgg3 hD rfl rfl rfl (WL.eql rfl rfl rfl (WL.assign rfl rfl (WL.nil (WX.then_normal (WC.ret (?_))))))
  refine WX.ret1 (.inl rfl) Tryz.results68 rfl ?_
  exact ⟨_, rfl, rfl, hw⟩
theorem dindex_calls {S : Nat → Prop} {w : World} {g : Nat} {d : Int} (hD : Blk w g 3 [vi d]) {wa : Option Addr} {wc : Nat} {ws : List (Pl × Rw)} (hW : Row S w 105 ewr wa wc ws) :
    Calls Tryz.prog 79 [.slice wa ws.length wc, fnDel g].toArray w (Ret fun v w' => (∃ k : Int, v = vi k ∧ ((k = -1 ∧ ∀ x ∈ ws, x.1.1 ≠ d) ∨ ∃ (i : Nat) (x : Pl × Rw), k = (i : Int) ∧ ws[i]? = some x ∧ x.1.1 = d ∧ ∀ j x, j < i → ws[j]? = some x → x.1.1 ≠ d)) ∧ Chg Nob w w') := by
  have hw := Chg.refl Nob w
  have hcap := hW.own.cap
  have hws : ws.length ≤ 9223372036854775807 := by
    rcases hW.own.2.2 with ⟨_, h⟩ | ⟨_, _, _, _, _, _, h, _⟩
    · omega
    · simp only [maxLen] at h; omega
  refine Calls.of_WC Tryz.func79 rfl Tryz.ntmps79 (by simp) ?_
  refine WC.seq (WC.region (WL.assign rfl rfl (WL.nil (WX.then_normal (WC.seq (WC.seq (WC.region (?_))))))))
  refine WL.move rfl rfl (WL.len Tryz.underlying77 rfl rfl (WL.move rfl rfl (WL.nil (WX.then_normal (WC.block (?_))))))
  refine WC.loop (σ := Nat) (fun i => [(0, .slice wa ws.length wc), (1, fnDel g), (7, vi ws.length), (8, vi (i : Int))]) (fun i w' => i ≤ ws.length ∧ Blk w' g 3 [vi d] ∧ Row S w' 105 ewr wa wc ws ∧ Chg Nob w w' ∧ ∀ j x, j < i → ws[j]? = some x → x.1.1 ≠ d) (fun i => ws.length - i) 0 ⟨rfl, rfl, rfl, rfl, trivial⟩ ⟨Nat.zero_le _, hD, hW, hw, fun j x hj => by omega⟩ ?_
  clear hD hW hw
  rintro i w1 ⟨hi, hD, hW, hw, hno⟩
  refine WC.seq (WC.region (?_))
  refine WL.lss? rfl rfl rfl (fun h9 => ?_) (fun h9 => ?_)
  ·
    refine WL.nil (WX.then_normal (WC.seq (WC.cond_true rfl (WC.skip (WX.then_normal (WC.seq (WC.block (?_))))))))
    refine WC.seq (WC.region (WL.move rfl rfl (WL.assign rfl rfl (WL.nil (WX.then_normal (WC.seq (WC.region (?_))))))))
    refine WL.move rfl rfl (WL.move rfl rfl (WL.move rfl rfl (?_)))
    obtain ⟨x, hx⟩ : ∃ x, ws[i]? = some x := ⟨_, List.getElem?_eq_getElem (by omega)⟩
    refine WL.indexT (e := ewr) Tryz.underlying77 Tryz.sizeOf105 hW.rsl rfl rfl ⟨hx, rfl⟩ rfl ?_
    intro bb oo hcc
    refine WL.loads _ Tryz.isAgg105 Tryz.sizeOf105 rfl hcc rfl rfl (?_)
    refine WL.callv eg_68 rfl rfl rfl (del_calls hD x) ?_
    rintro v w2 ⟨rfl, k2⟩
    have zs_k2 := k2.size
    replace hD := hD.pure k2
    replace hW := hW.pure k2
    replace hw := hw.pure k2
    refine WL.nil (WX.then_normal (?_))
    first | refine WC.cond_dec rfl (fun hc16 => ?_) (fun hc16 => ?_) | refine WC.cond_split rfl (fun hc16 => ?_) (fun hc16 => ?_)
    ·
      refine WC.seq (WC.region (WL.move rfl rfl (WL.assign rfl rfl (WL.nil (WX.then_normal (WC.ret (WX.block_ret (?_))))))))
      refine WX.then_ret (WX.then_ret (WX.block_ret (WX.then_ret (?_))))
      refine WX.ret1 (.inl rfl) Tryz.results79 rfl ?_
      exact ⟨_, rfl, ⟨_, rfl, .inr ⟨i, x, rfl, hx, hc16, hno⟩⟩, hw⟩
    ·
      refine WC.skip (WX.block_normal (WX.then_normal (WC.region (WL.add64 rfl rfl (by omega) rfl (WL.move rfl rfl (WL.nil (?_)))))))
      refine WX.loop_next (i + 1) ⟨rfl, rfl, rfl, rfl, trivial⟩ ⟨by omega, hD, hW, hw, fun j y hj hy => ?_⟩ (by omega)
      rcases Nat.lt_or_ge j i with h1 | h1
      ·
        exact hno j y h1 hy
      ·
        have h2 : j = i := by omega
        subst h2
        rw [hx] at hy
        injection hy with hy
        subst hy
        exact hc16
  ·
    refine WL.nil (WX.then_normal (WC.seq (WC.cond_false rfl (WC.exit (WX.then_exit (WX.then_exit (WX.block_here (?_))))))))
    refine WX.then_normal (WC.seq (WC.region (WL.assign rfl rfl (WL.nil (WX.then_normal (WC.ret (?_)))))))
    refine WX.ret1 (.inl rfl) Tryz.results79 rfl ?_
    refine ⟨_, rfl, ⟨_, rfl, .inl ⟨rfl, fun y hy => ?_⟩⟩, hw⟩
    obtain ⟨k, hk, rfl⟩ := List.getElem_of_mem hy
    exact hno k _ (by omega) (List.getElem?_eq_getElem hk)
def stay {V : Type} (d : Int) (ws : List (Pl × V)) : List (Pl × V) := ws.filter fun x => !decide (x.1.1 = d)
theorem stay_all {V : Type} {d : Int} {ws : List (Pl × V)} (h : ∀ x ∈ ws, x.1.1 ≠ d) : stay d ws = ws := List.filter_eq_self.2 fun x hx => by simp [h x hx]
theorem stay_snoc {V : Type} {d : Int} {ws : List (Pl × V)} {j : Nat} {x : Pl × V} (hx : ws[j]? = some x) : stay d (ws.take (j + 1)) = if x.1.1 = d then stay d (ws.take j) else stay d (ws.take j) ++ [x] := by
  unfold stay
  rw [List.take_add_one, hx, Option.toList_some, List.filter_append]
  by_cases h : x.1.1 = d <;> simp [h]
theorem delete_calls {S : Nat → Prop} {w : World} {g : Nat} {d : Int} (hD : Blk w g 3 [vi d]) {wa : Option Addr} {wc : Nat} {ws : List (Pl × Rw)} (hW : Row S w 105 ewr wa wc ws) :
    Calls Tryz.prog 67 [.slice wa ws.length wc, fnDel g].toArray w (Ret fun v w' => v = .slice wa (stay d ws).length wc ∧ Row S w' 105 ewr wa wc (stay d ws) ∧ Chg (fun b => Eqb wa b) w w') := by
  have hw := Chg.refl (fun b => Eqb wa b) w
  have hcap := hW.own.cap
  have hD0 := hD
  have hkD := hD.kb
  have hws : ws.length ≤ 9223372036854775807 := by
    rcases hW.own.2.2 with ⟨_, h⟩ | ⟨_, _, _, _, _, _, h, _⟩
    · omega
    · simp only [maxLen] at h; omega
  have lD := hD.lt
  replace hW := hW.kb.lt
  refine Calls.of_WC Tryz.func67 rfl Tryz.ntmps67 (by simp) ?_
  refine WC.seq (WC.region (WL.assign rfl rfl (WL.nil (WX.then_normal (WC.seq (WC.region (WL.move rfl rfl (?_))))))))
  refine WL.move rfl rfl (?_)
  refine WL.call eg_79 rfl rfl (dindex_calls hD hW) ?_
  rintro v w2 ⟨⟨k, rfl, hix⟩, k2⟩
  have zs_k2 := k2.size
  replace hD := hD.pure k2
  replace hW := hW.pure k2
  replace hw := hw.pure k2
  refine WL.assign rfl rfl (WL.nil (WX.then_normal (WC.seq (WC.seq (WC.region (WL.move rfl rfl (?_)))))))
  refine WL.eql? rfl rfl rfl (fun h12 => ?_) (fun h12 => ?_)
  ·
    refine WL.nil (WX.then_normal (WC.cond_true rfl (WC.seq (WC.region (WL.move rfl rfl (WL.assign rfl rfl (WL.nil (?_))))))))
    refine WX.then_normal (WC.ret (WX.then_ret (?_)))
    refine WX.ret1 (.inl rfl) Tryz.results67 rfl ?_
    have hk1 : k = -1 := h12
    rcases hix with ⟨-, hno⟩ | ⟨i0, x0, e0, -⟩
    ·
      rw [stay_all hno]
      exact ⟨_, rfl, rfl, hW.mono (fun x hx => hx.1.1), hw⟩
    ·
      omega
  ·
    refine WL.nil (WX.then_normal (WC.cond_false rfl (WC.skip (WX.then_normal (WC.seq (WC.seq (WC.region (?_))))))))
    refine WL.move rfl rfl (?_)
    obtain ⟨i0, x0, rfl, hx0, hxd, hno⟩ := hix.resolve_left (fun h => h12 h.1)
    have hi0 := (List.getElem?_eq_some_iff.1 hx0).1
    obtain ⟨gw, rfl⟩ := hW.place0 hi0
    have lgw := hW.own.lt _ rfl
    have hne : g ≠ gw := fun e => by
      have h1 := (hW.at_ _ rfl).1.2
      rw [← e, hkD] at h1
      exact absurd h1 (by decide)
    have h0i : ws.take i0 = stay d (ws.take (i0 + 1)) := by
      rw [stay_snoc hx0, if_pos hxd, stay_all]
      intro x hx
      obtain ⟨k, hk, rfl⟩ := List.getElem_of_mem hx
      have hk2 : k < i0 := by simp at hk; omega
      refine hno k _ hk2 ?_
      rw [List.getElem_take]
      exact List.getElem?_eq_getElem (by omega)
    refine WL.add64 rfl rfl (by constructor <;> omega) rfl ?_
    refine WL.assign rfl rfl (WL.nil (WX.then_normal (WC.block (?_))))
    have zw := hw.size
    refine WC.loop (σ := Nat × Nat × List (Pl × Rw)) (fun q => [(0, .slice (some ⟨gw, 0, none⟩) ws.length wc), (1, fnDel g), (5, vi (q.1 : Int)), (6, vi (q.2.1 : Int))]) (fun q w' => (q.1 < q.2.1 ∧ q.2.1 ≤ ws.length) ∧ q.2.2.length = ws.length ∧ q.2.2.take q.1 = stay d (ws.take q.2.1) ∧ (∀ k, q.2.1 ≤ k → q.2.2[k]? = ws[k]?) ∧ Blk w' g 3 [vi d] ∧ Row (fun b => (S b ∧ kb w b = some (some 105)) ∧ b < w.heap.size) w' 105 ewr (some ⟨gw, 0, none⟩) wc q.2.2 ∧ Chg (fun b => Eqb (some ⟨gw, 0, none⟩) b) w w' ∧ w2.heap.size ≤ w'.heap.size) (fun q => ws.length - q.2.1) (i0, i0 + 1, ws) ⟨rfl, rfl, rfl, rfl, trivial⟩ ⟨⟨Nat.lt_succ_self _, hi0⟩, rfl, h0i, fun _ _ => rfl, hD, hW, hw, Nat.le_refl _⟩ ?_
    clear hD hW hw
    rintro ⟨i, j, xs⟩ w1 ⟨⟨hij, hj⟩, hlen, htk, hdr, hD, hW, hw, z1⟩
    simp only at hij hj hlen htk hdr hW
    dsimp only
    refine WC.seq (WC.seq (WC.region (WL.move rfl rfl (WL.move rfl rfl (WL.len Tryz.underlying77 rfl rfl (?_))))))
    refine WL.lss? rfl rfl rfl (fun h19 => ?_) (fun h19 => ?_)
    ·
      refine WL.nil (WX.then_normal (WC.cond_true rfl (WC.skip (WX.then_normal (WC.seq (WC.block (WC.seq (?_))))))))
      refine WC.region (WL.move rfl rfl (WL.move rfl rfl (?_)))
      obtain ⟨x, hx⟩ : ∃ x, ws[j]? = some x := ⟨_, List.getElem?_eq_getElem (by omega)⟩
      have hx2 : xs[j]? = some x := (hdr j (Nat.le_refl _)).trans hx
      refine WL.indexT (e := ewr) Tryz.underlying77 Tryz.sizeOf105 hW.rsl (show _ = some (Value.slice (some ⟨gw, 0, none⟩) xs.length wc) from by rw [hlen]; rfl) rfl ⟨hx2, rfl⟩ rfl ?_
      intro bb oo hcc
      refine WL.loads _ Tryz.isAgg105 Tryz.sizeOf105 rfl hcc rfl rfl (?_)
      refine WL.alloc Tryz.zeroValue105 rfl ?_
      intro g_1 w_1 hge_1 hlt_1 hb_1 k_1
      have zs_k_1 := k_1.size
      replace hD := hD.pure k_1
      replace hW := hW.pure k_1
      replace hw := hw.pure k_1
      refine WL.stores Tryz.sizeOf105 hb_1 rfl rfl (by rfl) (by exact Enc.one _ _) (by exact Nat.le_of_ble_eq_true rfl) rfl ?_
      intro w_2 hs_2 hn_2 k_2
      have zs_k_2 := k_2.size
      replace hD := hD.chg k_2 (by intro h1; have h2 : _ = _ := h1; exfalso; omega)
      replace hW := hW.chg k_2 (by intro b h1 h2 h3; have h4 : _ = _ := h3; (try dsimp only at h2); exfalso; omega)
      replace hw := hw.chg k_2 (by intro x h1 h2; have h3 : _ = _ := h2; exfalso; omega)
      replace hb_1 := hn_2
      refine WL.nil (WX.then_normal (WC.seq (WC.region (?_))))
      have hb8 : Blk _ g_1 105 (ewr.f x) := hb_1
      refine WL.move rfl rfl ?_
      refine WL.loadsB Tryz.isAgg105 Tryz.sizeOf105 hb8 rfl rfl rfl ?_
      refine WL.callv eg_68 rfl rfl rfl (del_calls hD x) ?_
      rintro v w3 ⟨rfl, k3⟩
      have zs_k3 := k3.size
      replace hD := hD.pure k3
      replace hW := hW.pure k3
      replace hw := hw.pure k3
      replace hb8 := hb8.pure k3
      refine WL.not rfl rfl (WL.nil (WX.then_normal (?_)))
      first | refine WC.cond_dec rfl (fun hc29 => ?_) (fun hc29 => ?_) | refine WC.cond_split rfl (fun hc29 => ?_) (fun hc29 => ?_)
      ·
        refine WC.seq (WC.region (WL.move rfl rfl (WL.move rfl rfl (?_))))
        refine WL.loadsB Tryz.isAgg105 Tryz.sizeOf105 hb8 rfl rfl rfl ?_
        refine WL.index (j := i) Tryz.underlying77 Tryz.sizeOf105 rfl rfl rfl (by omega) rfl ?_
        refine WL.storeE (e := ewr) (vs := ewr.f x) (ys := xs.set i x) Tryz.sizeOf105 hW rfl rfl rfl (ewr.one x) (by show 0 + i * 3 + 3 ≤ xs.length * 3; omega) (List.length_set ..) (by rw [Nat.zero_add]; exact (Enc.all_set ewr (by omega) x).symm) ?_
        intro w8 z8 hW8 k8
        have zs_k8 := k8.size
        replace hD := hD.chg k8 (by intro h1; have h2 : _ = _ := h1; exfalso; omega)
        replace hw := hw.chg k8 (by intro x h1 h2; exact ⟨_, rfl, h2⟩)
        refine WL.nil (WX.then_normal (WC.region (WL.move rfl rfl (WL.add64 rfl rfl (by omega) rfl (WL.assign rfl rfl (WL.nil (WX.block_normal (?_))))))))
        refine WX.then_normal (WC.region (WL.move rfl rfl (WL.add64 rfl rfl (by omega) rfl (WL.assign rfl rfl (WL.nil (?_))))))
        have hs : (!decide (x.1.1 = d)) = true := hc29
        have hs2 : ¬ x.1.1 = d := by simpa using hs
        refine WX.loop_next (i + 1, j + 1, xs.set i x) ⟨rfl, rfl, rfl, rfl, trivial⟩ ⟨⟨by show i + 1 < j + 1; omega, by show j + 1 ≤ _; omega⟩, by show (xs.set i x).length = _; rw [List.length_set, hlen], ?_, ?_, hD, hW8, hw, by omega⟩ (by show ws.length - (j + 1) < ws.length - j; omega)
        ·
          show (xs.set i x).take (i + 1) = stay d (ws.take (j + 1))
          rw [stay_snoc hx, if_neg hs2, ← htk, List.take_add_one, List.take_set_of_le (Nat.le_refl _), List.getElem?_set_self (by omega)]
          rfl
        ·
          intro k hk
          have hk' : j + 1 ≤ k := hk
          show (xs.set i x)[k]? = ws[k]?
          rw [List.getElem?_set_ne (by omega)]
          exact hdr k (by omega)
      ·
        refine WC.skip (WX.block_normal (WX.then_normal (WC.region (WL.move rfl rfl (WL.add64 rfl rfl (by omega) rfl (WL.assign rfl rfl (WL.nil (?_))))))))
        have hs : (!decide (x.1.1 = d)) = false := hc29
        have hs2 : x.1.1 = d := by simpa using hs
        refine WX.loop_next (i, j + 1, xs) ⟨rfl, rfl, rfl, rfl, trivial⟩ ⟨⟨by show i < j + 1; omega, by show j + 1 ≤ _; omega⟩, hlen, ?_, ?_, hD, hW, hw, by omega⟩ (by show ws.length - (j + 1) < ws.length - j; omega)
        ·
          show xs.take i = stay d (ws.take (j + 1))
          rw [stay_snoc hx, if_pos hs2, htk]
        ·
          intro k hk
          have hk' : j + 1 ≤ k := hk
          exact hdr k (by omega)
    ·
      refine WL.nil (WX.then_normal (WC.cond_false rfl (WC.exit (WX.then_exit (WX.then_exit (WX.block_here (WX.then_normal (?_))))))))
      refine WC.seq (WC.region (WL.move rfl rfl (WL.move rfl rfl (?_))))
      refine WL.sliceC (e := ewr) (l := i) (h := xs.length) (k := .i64) (j := .i64) Tryz.underlying77 Tryz.sizeOf105 hW.rsl (by rw [hlen]; rfl) (.inl rfl) (.inr ⟨rfl, rfl⟩) ⟨by omega, Nat.le_refl _⟩ rfl ?_
      refine WL.clearTail (e := ewr) (i := i) Tryz.underlying77 Tryz.zeroValue105 rfl (by simp [Value.cells, Value.oneCell']) hW (by rw [List.take_length, List.length_drop]; omega) rfl ?_
      intro w9 z9 hW9 k9
      have zs_k9 := k9.size
      replace hD := hD.chg k9 (by intro h1; have h2 : _ = _ := h1; exfalso; omega)
      replace hw := hw.chg k9 (by intro x h1 h2; exact ⟨_, rfl, h2⟩)
      refine WL.nil (WX.then_normal (WC.seq (WC.region (WL.move rfl rfl (WL.move rfl rfl (?_))))))
      refine WL.sliceRow (e := ewr) (i := i) Tryz.underlying77 Tryz.sizeOf105 rfl rfl (by omega) rfl ?_
      refine WL.assign rfl rfl (WL.nil (WX.then_normal (WC.ret (?_))))
      refine WX.ret1 (.inl rfl) Tryz.results67 rfl ?_
      have hjl : j = ws.length := by omega
      subst hjl
      rw [List.take_length] at htk
      have hil : (stay d ws).length = i := by rw [← htk, List.length_take]; omega
      rw [htk] at hW9
      exact ⟨_, rfl, by rw [hil], hW9.mono (fun x hx => hx.1.1), hw⟩
end Go.Proofs.YtggecdldnpildaaGreat
namespace Go.Proofs.YtggecdldnpildaaGreat
open Go.RowKit Go.HL
set_option maxRecDepth 100000

theorem xsm_stay (d : Int) (l : List (Pl × Rw)) : xsm (stay d l) = stay d (xsm l) := by
  unfold stay xsm
  rw [List.filter_map]
  rfl
def forgetS (s : RA) (d : Int) : RA := { s with waits := stay d s.waits }
theorem forgetS_ok {s : RA} (h : s.ok) (d : Int) : (forgetS s d).ok := ⟨h.dn, h.sn, h.gl, h.ll, fun p hp => h.lw p (List.mem_filter.1 hp).1, h.lf, h.nd⟩
theorem forget_calls {A : Nat → Prop} {w : World} {R : Nat} {s : RA} (h : RK A w R s) (d : Int) :
    Calls Tryz.prog 44 [ptr R, vi d].toArray w (Ret fun v w' => v = .tuple #[] ∧ RK A w' R (forgetS s d) ∧ Chg A w w') := by
  have aR := h.aR
  have hok := forgetS_ok h.ok d
  obtain ⟨m, ga, gc, wa, wc, ws, ls, hB, hI, hls, hws⟩ := h.old.ex
  replace hI := hI.open hB
  have lR := hB.lt
  have hw := Chg.refl A w
  refine Calls.of_WC Tryz.func44 rfl Tryz.ntmps44 (by simp) ?_
  refine WC.seq (WC.region (?_))
  refine WL.box rfl rfl ?_
  intro g_1 w_1 hge_1 hlt_1 hb_1 k_1
  have zs_k_1 := k_1.size
  replace hB := hB.pure k_1
  replace hI := hI.pure k_1
  replace hw := hw.pure k_1
  refine WL.nil (WX.then_normal (WC.region (WL.move rfl rfl (WL.move rfl rfl (WL.nilCheck rfl rfl (WL.fieldAddr (fld_79_4) rfl rfl (WL.loadB Tryz.isAgg77 hB rfl rfl rfl (?_))))))))
  refine WL.makeFun rfl rfl ?_
  refine WL.call eg_67 rfl rfl (delete_calls (d := d) hb_1 hI.waits) ?_
  rintro v w2 ⟨rfl, hW2, k2⟩
  have k3 : Chg (fun x => A x ∧ x ≠ R) _ w2 := k2.mono (fun x _ hx => ⟨(hI.waits.at_.eqb hx).1.1, (hI.waits.at_.eqb hx).2⟩)
  have hI2 := hI.setWaits hW2 k2 (fun b hb => hb) (fun p hp => .inl ⟨p, (List.mem_filter.1 hp).1, rfl⟩)
  have zs_k3 := k3.size
  replace hB := hB.chg k3 (by intro h1; exfalso; have h4 := h1.2; (try dsimp only at *); omega)
  replace hw := hw.chg k3 (by intro x h1 h2; exact h2.1)
  refine WL.nilCheck rfl rfl (WL.fieldAddr (fld_79_4) rfl rfl (?_))
  refine WL.store Tryz.sizeOf77 hB rfl rfl rfl rfl ?_
  intro w_2 hs_2 hn_2 k_2
  have zs_k_2 := k_2.size
  replace hw := hw.chg k_2 (by intro x h1 h2; have h3 : _ = _ := h2; subst h3; assumption)
  replace hI2 := hI2.chg k_2 (by intro b h1 h2 h3; have h4 : _ = _ := h3; (try dsimp only at h2); exfalso; omega)
  replace hB := hn_2
  refine WL.nil (?_)
  refine WX.ret0 (.inr rfl) Tryz.results44 ?_
  exact ⟨_, rfl, rfl, ⟨aR, hok, m, ga, gc, wa, wc, stay d ws, ls, hB, hI2.mono (fun x hx => hx.1.1), hls, by rw [xsm_stay, ← hws]; rfl⟩, hw⟩
/-! a drive is lost -/
def loseS (s : RA) (d : Int) (b : Bool) : RA := { s with waits := stay d s.waits, gone := s.gone.set d.toNat b }
theorem loseS_ok {s : RA} (h : s.ok) (d : Int) (b : Bool) : (loseS s d b).ok := ⟨h.dn, h.sn, by show (s.gone.set d.toNat b).length = s.dn; rw [List.length_set]; exact h.gl, h.ll, fun p hp => h.lw p (List.mem_filter.1 hp).1, h.lf, h.nd⟩
theorem Lose_calls {A : Nat → Prop} {w : World} {R : Nat} {s : RA} (h : RK A w R s) (d : Int) :
    Calls Tryz.prog 18 [ptr R, vi d].toArray w (Ret fun v w' => v = vi (if isS s d then 0 else 1) ∧ RK A w' R (if isS s d then loseS s d true else s) ∧ Chg A w w') := by
  have aR := h.aR
  have hok := loseS_ok h.ok d true
  have hgl := h.ok.gl
  have hw := Chg.refl A w
  refine Calls.of_WC Tryz.func18 rfl Tryz.ntmps18 (by simp) ?_
  refine WC.seq (WC.region (WL.assign rfl rfl (WL.nil (WX.then_normal (WC.seq (WC.seq (WC.region (?_))))))))
  refine WL.move rfl rfl (WL.move rfl rfl (?_))
  refine WL.call eg_43 rfl rfl (is_calls h d) ?_
  rintro v w1 ⟨rfl, k1⟩
  have zs_k1 := k1.size
  replace h := h.pure k1
  replace hw := hw.pure k1
  by_cases h9 : isS s d
  ·
    rw [show decide (0 ≤ d ∧ d < (s.dn : Int)) = true from decide_eq_true h9]
    refine WL.not rfl rfl (WL.nil (WX.then_normal (WC.cond_false rfl (WC.skip (WX.then_normal (WC.seq (WC.region (?_))))))))
    refine WL.move rfl rfl (WL.move rfl rfl (?_))
    refine WL.call eg_44 rfl rfl (forget_calls h d) ?_
    rintro v w2 ⟨rfl, h2, k2⟩
    have zs_k2 := k2.size
    replace hw := hw.chg k2 (by intro x h1 h2; exact h2)
    obtain ⟨m, ga, gc, wa, wc, ws, ls, hB, hI, hls, hws⟩ := h2.ex
    replace hI := hI.open hB
    have hg0 : d.toNat < s.gone.length := by have h1 := h9.1; have h2 := h9.2; omega
    obtain ⟨g, rfl⟩ := hI.gone.place0 hg0
    have hgR : g ≠ R := (hI.gone.at_ _ rfl).2
    have aG : A g := (hI.gone.at_ _ rfl).1
    refine WL.nil (WX.then_normal (WC.seq (WC.region (WL.move rfl rfl (WL.nilCheck rfl rfl (WL.fieldAddr (fld_79_3) rfl rfl (WL.loadB Tryz.isAgg55 hB rfl rfl rfl (?_))))))))
    refine WL.move rfl rfl (?_)
    refine WL.index (j := d.toNat) Tryz.underlying55 Tryz.sizeOf4 rfl rfl (by have := h9.1; omega) hg0 rfl ?_
    refine WL.storeRow (z := true) d.toNat Tryz.sizeOf4 hI.gone rfl rfl rfl (by show 0 + d.toNat * 1 = d.toNat; omega) hg0 rfl ?_
    intro w8 z8 hG8 k8
    have hI8 := hI.setGone hG8 k8
    have zs_k8 := k8.size
    replace hw := hw.chg k8 (by intro x h1 h2; have h3 : _ = _ := h2; subst h3; assumption)
    replace hB := hB.chg k8 (by intro h1; have h2 : _ = _ := h1; exfalso; omega)
    refine WL.nil (WX.then_normal (WC.seq (WC.region (WL.assign rfl rfl (WL.nil (WX.then_normal (WC.ret (?_))))))))
    refine WX.ret1 (.inl rfl) Tryz.results18 rfl ?_
    rw [if_pos h9, if_pos h9]
    refine ⟨_, rfl, rfl, ⟨aR, hok, m, _, gc, wa, wc, ws, ls, Eq.mp (congrArg (Blk _ R 79) ?_) hB, hI8.mono (fun x hx => hx.1), hls, hws⟩, hw⟩
    simp [loseS, forgetS]
  ·
    rw [show decide (0 ≤ d ∧ d < (s.dn : Int)) = false from decide_eq_false h9]
    refine WL.not rfl rfl (WL.nil (WX.then_normal (WC.cond_true rfl (WC.seq (WC.region (WL.assign rfl rfl (WL.nil (?_))))))))
    refine WX.then_normal (WC.ret (WX.then_ret (?_)))
    refine WX.ret1 (.inl rfl) Tryz.results18 rfl ?_
    have hh : ¬ isS s d := h9
    rw [if_neg hh, if_neg hh]
    exact ⟨_, rfl, rfl, h, hw⟩
/-! a new drive -/
section
variable {K V : Type} [DecidableEq K]
end
end Go.Proofs.YtggecdldnpildaaGreat
namespace Go.Proofs.YtggecdldnpildaaGreat
open Go.RowKit Go.HL
set_option maxRecDepth 100000

/-! a byte is another one -/
theorem RI.putMapN {S : Nat → Prop} {w w' : World} {m : Nat} {ga : Option Addr} {gc : Nat} {wa : Option Addr} {wc : Nat} {gl : List Bool} {ws ls ls2 : List (Pl × Rw)} (h : RI S w m ga gc wa wc gl ws ls) (hM : Mp kpl vsl w' m ls2) (k : Chg (· = m) w w') (hn : ∀ p ∈ ls2, (∃ q ∈ ls, q.2 = p.2) ∨ Row S w 5 eb p.2.ao p.2.cap p.2.xs) : RI S w' m ga gc wa wc gl ws ls2 := by
  have hk := h.map.kb
  have hd : ∀ T b, b < w.heap.size → b = m → kb w b ≠ some (some T) := by
    rintro T b _ rfl
    rw [hk]
    simp
  have hb : ∀ p ∈ ls2, Row S w 5 eb p.2.ao p.2.cap p.2.xs := fun p hp => by
    rcases hn p hp with ⟨q, hq, e⟩ | h1
    · rw [← e]; exact h.byl q hq
    · exact h1
  exact ⟨h.sm, hM, h.gone.chgK k (hd _), h.waits.chgK k (hd _), fun p hp => (hb p hp).chgK k (hd _), fun p hp => (h.byw p hp).chgK k (hd _)⟩
def rotX (n : Int) : UInt8 := B8 (1 + n / 128 % 255)
def rotB (b : List UInt8) (n : Int) : List UInt8 := b.set (n % 128).toNat (b.getD (n % 128).toNat 0 ^^^ rotX n)
theorem rotB_len (b : List UInt8) (n : Int) : (rotB b n).length = b.length := List.length_set ..
def rotS (s : RA) (p : Pl) (n : Int) : RA := match newV s.waits p with
  | some _ => { s with waits := putW s.waits p (rotB (heldS s p) n) }
  | none => { s with last := mput s.last p (rotB (heldS s p) n) }
def rotE (s : RA) (d a n : Int) : Int := if ¬ inS s d a ∨ n < 0 then 1 else if goneS s d = true then 3 else 0
theorem putW_mem {V : Type} {ws : List (Pl × V)} {p : Pl} {v : V} {x : Pl × V} (h : x ∈ putW ws p v) : x ∈ ws ∨ x = (p, v) := by
  rcases mput_mem (List.mem_reverse.1 h) with h1 | h1
  · exact .inl (List.mem_reverse.1 h1)
  · exact .inr h1
theorem rotS_ok {s : RA} (h : s.ok) (p : Pl) (n : Int) : (rotS s p n).ok := by
  have hl : (rotB (heldS s p) n).length = 128 := by rw [rotB_len]; exact heldS_len h p
  unfold rotS
  split
  · refine ⟨h.dn, h.sn, h.gl, h.ll, fun q hq => ?_, h.lf, h.nd⟩
    rcases putW_mem hq with h1 | h1
    · exact h.lw q h1
    · rw [h1]; exact hl
  · refine ⟨h.dn, h.sn, h.gl, fun q hq => ?_, h.lw, h.lf, mput_nodup h.nd⟩
    rcases mput_mem hq with h1 | h1
    · exact h.ll q h1
    · rw [h1]; exact hl
theorem splice3 (A D : List Value) (a b c v : Value) : (A ++ ([a, b, c] ++ D)).take (A.length + 2) ++ [v] ++ (A ++ ([a, b, c] ++ D)).drop (A.length + 2 + 1) = A ++ ([a, b, v] ++ D) := by
  rw [List.take_append, List.drop_append, List.take_of_length_le (l := A) (Nat.le_add_right _ _), List.drop_eq_nil_of_le (show A.length ≤ A.length + 2 + 1 from by omega)]
  rw [show A.length + 2 - A.length = 2 from by omega, show A.length + 2 + 1 - A.length = 3 from by omega]
  simp
theorem wr_set {ws : List (Pl × Rw)} {j : Nat} {x : Pl × Rw} (hx : ws[j]? = some x) (r : Rw) : (ewr.all ws).take (0 + j * 3 + 2) ++ [vsl r] ++ (ewr.all ws).drop (0 + j * 3 + 2 + 1) = ewr.all (ws.set j (x.1, r)) := by
  have hj := (List.getElem?_eq_some_iff.1 hx).1
  have hl : (ewr.all (ws.take j)).length = j * 3 := by
    rw [Enc.all_len, List.length_take, Nat.min_eq_left (Nat.le_of_lt hj)]
    rfl
  have e1 : ewr.all ws = ewr.all (ws.take j) ++ ([vi x.1.1, vi x.1.2, vsl x.2] ++ ewr.all (ws.drop (j + 1))) := by
    conv => lhs; rw [split_at hx]
    rw [Enc.all_append, Enc.all_append, List.append_assoc]
    rfl
  have e2 : ewr.all (ws.set j (x.1, r)) = ewr.all (ws.take j) ++ ([vi x.1.1, vi x.1.2, vsl r] ++ ewr.all (ws.drop (j + 1))) := by
    rw [List.set_eq_take_append_cons_drop, if_pos hj, Enc.all_append]
    rfl
  rw [e1, e2, Nat.zero_add, ← hl]
  exact splice3 _ _ _ _ _ _
set_option maxHeartbeats 1000000 in
theorem Rot_calls {A : Nat → Prop} {w : World} {R : Nat} {s : RA} (h : RK A w R s) (d a n : Int) (hn : n ≤ 9223372036854775807) :
    Calls Tryz.prog 28 [ptr R, vi d, vi a, vi n].toArray w (Ret fun v w' => v = vi (rotE s d a n) ∧ RK (fun x => A x ∨ w.heap.size ≤ x) w' R (if rotE s d a n = 0 then rotS s (d, a) n else s) ∧ Chg A w w') := by
  have aR := h.aR
  have hok := h.ok
  have hrok := rotS_ok h.ok (d, a) n
  replace h := h.old
  have hw := Chg.refl A w
  refine Calls.of_WC Tryz.func28 rfl Tryz.ntmps28 (by simp) ?_
  refine WC.seq (WC.region (WL.assign rfl rfl (WL.nil (WX.then_normal (WC.seq (WC.block (WC.seq (?_))))))))
  refine WC.region (WL.move rfl rfl (WL.move rfl rfl (WL.move rfl rfl (?_))))
  refine WL.call eg_56 rfl rfl (in_calls h d a) ?_
  rintro v w1 ⟨rfl, k1⟩
  have zs_k1 := k1.size
  replace h := h.pure k1
  replace hw := hw.pure k1
  by_cases h12 : inS s d a
  ·
    rw [show decide (0 ≤ d ∧ d < (s.dn : Int) ∧ 0 ≤ a ∧ a < (s.sn : Int)) = true from decide_eq_true h12]
    refine WL.not rfl rfl (WL.move rfl rfl (WL.want rfl rfl rfl (WL.move rfl rfl (WL.want rfl rfl rfl (?_)))))
    refine WL.lss? rfl rfl rfl (fun h20 => ?_) (fun h20 => ?_)
    ·
      refine WL.pickF rfl rfl rfl (WL.assign rfl rfl (WL.nil (WX.then_normal (WC.cond_true rfl (WC.seq (WC.region (WL.assign rfl rfl (?_))))))))
      refine WL.nil (WX.then_normal (WC.ret (WX.block_ret (WX.then_ret (?_)))))
      refine WX.ret1 (.inl rfl) Tryz.results28 rfl ?_
      have hh : n < 0 := h20
      have e0 : rotE s d a n = 1 := by simp [rotE, hh]
      rw [e0]
      exact ⟨_, rfl, rfl, h.mono (fun x hx => .inl hx.1), hw⟩
    ·
      refine WL.pickF rfl rfl rfl (WL.assign rfl rfl (WL.nil (WX.then_normal (WC.cond_false rfl (WC.seq (WC.region (WL.move rfl rfl (?_))))))))
      refine WL.nilCheck rfl rfl (WL.fieldAddr (fld_79_3) rfl rfl (?_))
      obtain ⟨m, ga, gc, wa, wc, ws, ls, hB, hI, hls, hws⟩ := h.ex
      refine WL.loadB Tryz.isAgg55 hB rfl rfl rfl ?_
      refine WL.move rfl rfl (?_)
      have hgd := goneS_at h.ok (d := d) ⟨h12.1, h12.2.1⟩
      refine WL.indexT (e := ebool) Tryz.underlying55 Tryz.sizeOf4 hI.gone.rsl rfl rfl ⟨hgd, by have := h12.1; omega⟩ rfl ?_
      intro bb oo hcc
      refine WL.load Tryz.isAgg4 rfl (hcc 0 _ rfl) rfl ?_
      rcases hg : goneS s d with _ | _
      ·
        clear hB hI hls hws hcc
        refine WL.assign rfl rfl (WL.nil (WX.then_normal (WC.cond_false rfl (WC.skip (WX.block_normal (WX.then_normal (WC.seq (?_))))))))
        refine WC.region (WL.move rfl rfl (WL.move rfl rfl (WL.bld rfl (bld_103_0_1 _ _) rfl (?_))))
        refine WL.alloc Tryz.zeroValue103 rfl ?_
        intro g_1 w_1 hge_1 hlt_1 hb_1 k_1
        have zs_k_1 := k_1.size
        replace h := h.pure k_1
        replace hw := hw.pure k_1
        refine WL.stores Tryz.sizeOf103 hb_1 rfl rfl (by simp; done) (by simp [Value.oneCell']; done) (by simp [Value.cells]; done) rfl ?_
        intro w_2 hs_2 hn_2 k_2
        have zs_k_2 := k_2.size
        replace h := h.chg k_2 (by intro b h1 h2 h3; have h4 : _ = _ := h3; (try dsimp only at h2); exfalso; omega)
        replace hw := hw.chg k_2 (by intro x h1 h2; have h3 : _ = _ := h2; exfalso; omega)
        replace hb_1 := hn_2
        refine WL.nil (WX.then_normal (WC.seq (WC.region (?_))))
        have hb8 : Blk _ g_1 103 [vi d, vi a] := hb_1
        refine WL.move rfl rfl ?_
        refine WL.loadsB Tryz.isAgg103 Tryz.sizeOf103 hb8 rfl (by simp; done) rfl (?_)
        refine WL.call eg_58 rfl rfl (held_calls h (d, a)) ?_
        rintro v w2 ⟨⟨r, rfl, hr, hx⟩, k2⟩
        have zs_k2 := k2.size
        replace h := h.pure k2
        replace hw := hw.pure k2
        replace hb8 := hb8.pure k2
        have hxl : r.xs.length = 128 := by rw [hx]; exact heldS_len hok _
        refine WL.call eg_57 rfl rfl (bclone_calls hr hxl) ?_
        rintro v w3 ⟨⟨gq, cq, rfl, hq, hq1, hq2⟩, k3⟩
        have zw3 := hw.size
        have zs_k3 := k3.size
        replace h := h.pure k3
        replace hw := hw.pure k3
        replace hb8 := hb8.pure k3
        refine WL.assign rfl rfl (WL.nil (WX.then_normal (WC.seq (WC.region (WL.move rfl rfl (WL.move rfl rfl (WL.rem64i rfl rfl (by constructor <;> omega) rfl (?_))))))))
        obtain ⟨kk, hk⟩ : ∃ kk, r.xs[(n % 128).toNat]? = some kk := ⟨_, List.getElem?_eq_getElem (by omega)⟩
        refine WL.indexC hq.rsl Tryz.underlying26 Tryz.sizeOf5 rfl rfl ⟨hk, by omega⟩ rfl ?_
        refine WL.load Tryz.isAgg5 rfl (hq.rsl.cellsAt hk 0 _ rfl) rfl ?_
        refine WL.move rfl rfl (WL.quo64i rfl rfl (by refine ⟨?_, ?_, ?_⟩ <;> omega) rfl (WL.rem64i rfl rfl (by constructor <;> omega) rfl (WL.add64 rfl rfl (by omega) rfl (WL.c_i64_u8 Tryz.underlying3 Tryz.underlying5 rfl rfl (WL.num rfl rfl (n_xor8 _ _ _ _) rfl (?_))))))
        refine WL.index (j := (n % 128).toNat) Tryz.underlying26 Tryz.sizeOf5 rfl rfl (by omega) (by omega) rfl ?_
        refine WL.storeRow (z := kk ^^^ B8 (1 + n / 128 % 255)) ((n % 128).toNat) Tryz.sizeOf5 hq rfl rfl rfl (by simp; done) (by omega) rfl ?_
        intro w_3 zs_3 nr_3 k_3
        have zs_k_3 := k_3.size
        replace h := h.chg k_3 (by intro b h1 h2 h3; have h4 : _ = _ := h3; (try dsimp only at h2); exfalso; omega)
        replace hw := hw.chg k_3 (by intro x h1 h2; have h3 : _ = _ := h2; exfalso; omega)
        replace hb8 := hb8.chg k_3 (by intro h1; have h2 : _ = _ := h1; exfalso; omega)
        replace hq := nr_3
        have hrb : r.xs.set (n % 128).toNat (kk ^^^ B8 (1 + n / 128 % 255)) = rotB (heldS s (d, a)) n := by
          rw [rotB, ← hx, List.getD_eq_getElem?_getD, hk]
          rfl
        have hqS : Row (fun x => (A x ∨ w.heap.size ≤ x) ∧ x ≠ R) _ 5 eb (some ⟨gq, 0, none⟩) cq (r.xs.set (n % 128).toNat (kk ^^^ B8 (1 + n / 128 % 255))) := ((h.ne hq).mono (fun x hx => ⟨.inr (by have := hx.1; omega), hx.2⟩))
        refine WL.nil (WX.then_normal (WC.seq (WC.seq (WC.region (WL.move rfl rfl (WL.loadsB Tryz.isAgg103 Tryz.sizeOf103 hb8 rfl (by simp; done) rfl (?_)))))))
        obtain ⟨m, ga, gc, wa, wc, ws, ls, hB, hI, hls, hws⟩ := h.ex
        have am : A m := hI.sm.1
        have lm : m < w.heap.size := hI.sm.2
        have lR : R < w.heap.size := h.aR.2
        replace hI := hI.open hB
        have hmR : m ≠ R := hI.sm.2
        refine WL.call eg_59 rfl rfl (newest_calls hB hI.waits (d, a)) ?_
        rintro v w5 ⟨⟨ao, rfl, hnew⟩, k5⟩
        have zs_k5 := k5.size
        replace hw := hw.pure k5
        replace hb8 := hb8.pure k5
        replace hqS := hqS.pure k5
        replace hB := hB.pure k5
        replace hI := hI.pure k5
        refine WL.assign rfl rfl (WL.nil (WX.then_normal (WC.seq (WC.region (WL.move rfl rfl (?_))))))
        refine WL.ptrSome Tryz.underlying108 rfl rfl rfl ?_
        rcases hnew with ⟨rfl, hno⟩ | ⟨j, x, gW, hxj, hxp, hno, rfl, rfl⟩
        ·
          refine WL.nil (WX.then_normal (WC.cond_false rfl (WC.skip (WX.then_normal (WC.seq (?_))))))
          replace hI := hI.mono (S' := fun x => (A x ∨ w.heap.size ≤ x) ∧ x ≠ R) (fun x hx => ⟨.inl hx.1.1, hx.2⟩)
          refine WC.draw ((fun x => x = m)) [0, 1, 2, 3, 4, 5] [6] mixed rfl rfl (fun wd_4 kd_4 zd_4 => ?_)
          have zs_kd_4 := kd_4.size
          replace hw := hw.pure kd_4
          replace hb8 := hb8.pure kd_4
          replace hqS := hqS.pure kd_4
          replace hB := hB.pure kd_4
          replace hI := hI.pure kd_4
          apply DQ.step (E' := [(0, _)])
          case ho => rfl
          case hs => exact ⟨rfl, trivial⟩
          case hk => rfl
          case h1 =>
            intro wq_6 kq_6
            refine WL.move rfl rfl (?_)
            refine WL.nil ?_
            exact WX.one ⟨rfl, by exact Chg.refl _ _⟩
          apply DQ.step (E' := [(58, _)])
          case ho => rfl
          case hs => exact ⟨rfl, trivial⟩
          case hk => rfl
          case h1 =>
            intro wq_7 kq_7
            refine WL.nilCheck rfl rfl (?_)
            refine WL.nil ?_
            exact WX.one ⟨rfl, by exact Chg.refl _ _⟩
          apply DQ.step (E' := [(59, _)])
          case ho => rfl
          case hs => exact ⟨rfl, trivial⟩
          case hk => rfl
          case h1 =>
            intro wq_8 kq_8
            refine WL.fieldAddr (fld_79_2) rfl rfl (?_)
            refine WL.nil ?_
            exact WX.one ⟨rfl, by exact Chg.refl _ _⟩
          apply DQ.step (E' := [(60, _)])
          case ho => rfl
          case hs => exact ⟨rfl, trivial⟩
          case hk => rfl
          case h1 =>
            intro wq_9 kq_9
            have zs_kq_9 := kq_9.size
            replace hw := hw.chg kq_9 (by intro x h1 h2; have h3 : _ = _ := h2; subst h3; assumption)
            replace hb8 := hb8.chg kq_9 (by intro h1; have h2 : _ = _ := h1; exfalso; omega)
            replace hB := hB.chg kq_9 (by intro h1; have h2 : _ = _ := h1; exfalso; omega)
            refine WL.loadB Tryz.isAgg76 hB rfl rfl rfl (?_)
            refine WL.nil ?_
            exact WX.one ⟨rfl, by exact Chg.refl _ _⟩
          apply DQ.step (E' := [(9, _)])
          case ho => rfl
          case hs => exact ⟨rfl, trivial⟩
          case hk => rfl
          case h1 =>
            intro wq_10 kq_10
            have zs_kq_10 := kq_10.size
            replace hw := hw.chg kq_10 (by intro x h1 h2; have h3 : _ = _ := h2; subst h3; assumption)
            replace hb8 := hb8.chg kq_10 (by intro h1; have h2 : _ = _ := h1; exfalso; omega)
            replace hB := hB.chg kq_10 (by intro h1; have h2 : _ = _ := h1; exfalso; omega)
            refine WL.loadsB Tryz.isAgg103 Tryz.sizeOf103 hb8 rfl (by simp; done) rfl (?_)
            refine WL.nil ?_
            exact WX.one ⟨rfl, by exact Chg.refl _ _⟩
          apply DQ.step (E' := [(10, _)])
          case ho => rfl
          case hs => exact ⟨rfl, trivial⟩
          case hk => rfl
          case h1 =>
            intro wq_11 kq_11
            refine WL.move rfl rfl (?_)
            refine WL.nil ?_
            exact WX.one ⟨rfl, by exact Chg.refl _ _⟩
          refine DQ.done (fun hd_5 => ?_)
          refine DL.step [(61, _), (62, _), (63, _)] rfl ⟨rfl, rfl, rfl, trivial⟩ rfl (fun wq_12 kq_12 => ?_)
          have zs_kq_12 := kq_12.size
          replace hw := hw.pure kq_12
          replace hb8 := hb8.pure kq_12
          replace hqS := hqS.pure kq_12
          replace hB := hB.pure kq_12
          replace hI := hI.pure kq_12
          replace hd_5 := hd_5.pure kq_12
          refine WL.mput (v := (⟨some ⟨gq, 0, none⟩, cq, r.xs.set (n % 128).toNat (kk ^^^ B8 (1 + n / 128 % 255))⟩ : Rw)) plOk Tryz.underlying76 hI.map rfl (show _ = some (kpl (d, a)) from rfl) (show _ = some (Value.slice (some ⟨gq, 0, none⟩) (r.xs.set (n % 128).toNat (kk ^^^ B8 (1 + n / 128 % 255))).length cq) from by rw [List.length_set]; rfl) ?_
          intro w9 z9 hM9 k9
          have hI9 := hI.putMapN hM9 k9 (fun p hp => by
            rcases mput_mem hp with h3 | h3
            ·
              exact .inl ⟨p, h3, rfl⟩
            ·
              right
              rw [h3]
              exact hqS)
          have zs_k9 := k9.size
          replace hw := hw.chg k9 (by intro x h1 h2; have h3 : _ = _ := h2; subst h3; assumption)
          replace hB := hB.chg k9 (by intro h1; have h2 : _ = _ := h1; exfalso; omega)
          replace hd_5 := hd_5.chg k9 (by intro x h1 h2; exact h2)
          refine WL.nil ?_
          refine WX.one0 (v := undef) ⟨hd_5, ?_⟩
          refine DL.done (fun we_13 ke_13 => ?_)
          have zs_ke_13 := ke_13.size
          replace hw := hw.pure ke_13
          replace hB := hB.pure ke_13
          replace hd_5 := hd_5.pure ke_13
          replace hI9 := hI9.pure ke_13
          refine WX.then_normal (WC.seq (WC.region (WL.assign rfl rfl (WL.nil (WX.then_normal (WC.ret (?_)))))))
          refine WX.ret1 (.inl rfl) Tryz.results28 rfl ?_
          have hh2 : ¬ n < 0 := by omega
          have e0 : rotE s d a n = 0 := by simp [rotE, hg, hh2, h12]
          rw [e0, if_pos rfl]
          have e1 : rotS s (d, a) n = { s with last := mput s.last (d, a) (rotB (heldS s (d, a)) n) } := by
            unfold rotS
            rw [hws, xsm_newV, newV_none hno]
            rfl
          rw [e1] at hrok ⊢
          refine ⟨_, rfl, rfl, ⟨.inl aR, hrok, m, ga, gc, _, wc, _, _, hB, hI9.mono (fun x hx => hx.1), ?_, hws⟩, hw⟩
          show mput s.last (d, a) (rotB (heldS s (d, a)) n) = _
          rw [hls, ← hrb, xsm_put]
        ·
          have aW : A gW := (hI.waits.at_ _ rfl).1.1
          have hWR : gW ≠ R := (hI.waits.at_ _ rfl).2
          replace hI := hI.mono (S' := fun x => (A x ∨ w.heap.size ≤ x) ∧ x ≠ R) (fun x hx => ⟨.inl hx.1.1, hx.2⟩)
          refine WL.nil (WX.then_normal (WC.cond_true rfl (WC.seq (WC.region (WL.move rfl rfl (WL.move rfl rfl (WL.nilCheck rfl rfl (?_))))))))
          refine WL.fieldAddr (fld_105_1) rfl rfl (?_)
          have hjl := (List.getElem?_eq_some_iff.1 hxj).1
          refine WL.storeF (e := ewr) (ys := ws.set j (x.1, ⟨some ⟨gq, 0, none⟩, cq, r.xs.set (n % 128).toNat (kk ^^^ B8 (1 + n / 128 % 255))⟩)) Tryz.sizeOf26 hI.waits rfl (show _ = some (Value.slice (some ⟨gq, 0, none⟩) (r.xs.set (n % 128).toNat (kk ^^^ B8 (1 + n / 128 % 255))).length cq) from by rw [List.length_set]; rfl) rfl (by show 0 + j * 3 + 2 + 1 ≤ ws.length * 3; omega) (List.length_set ..) (wr_set hxj ⟨some ⟨gq, 0, none⟩, cq, r.xs.set (n % 128).toNat (kk ^^^ B8 (1 + n / 128 % 255))⟩) ?_
          intro w8 z8 hW8 k8
          have hI8 := hI.setWaits hW8 k8 (fun b hb => ⟨_, rfl, hb⟩) (fun p hp => by
            rcases List.mem_or_eq_of_mem_set hp with h3 | h3
            ·
              exact .inl ⟨p, h3, rfl⟩
            ·
              right
              rw [h3]
              exact hqS)
          have zs_k8 := k8.size
          replace hw := hw.chg k8 (by intro x h1 h2; have h3 : _ = _ := h2; subst h3; assumption)
          replace hB := hB.chg k8 (by intro h1; have h2 : _ = _ := h1; exfalso; omega)
          refine WL.nil (WX.then_normal (WC.seq (WC.region (WL.assign rfl rfl (WL.nil (WX.then_normal (WC.ret (?_))))))))
          refine WX.then_ret (?_)
          refine WX.ret1 (.inl rfl) Tryz.results28 rfl ?_
          have hh : ws[j]? = some x := hxj
          have hh2 : ¬ n < 0 := by omega
          have e0 : rotE s d a n = 0 := by simp [rotE, hg, hh2, h12]
          rw [e0, if_pos rfl]
          have e1 : rotS s (d, a) n = { s with waits := putW s.waits (d, a) (rotB (heldS s (d, a)) n) } := by
            unfold rotS
            rw [hws, xsm_newV, newV_some hxj hxp hno]
            rfl
          rw [e1] at hrok ⊢
          refine ⟨_, rfl, rfl, ⟨.inl aR, hrok, m, ga, gc, _, wc, _, ls, Eq.mp (congrArg (Blk _ R 79) ?_) hB, hI8.mono (fun x hx => hx.1), hls, ?_⟩, hw⟩
          ·
            simp
          ·
            show putW s.waits (d, a) (rotB (heldS s (d, a)) n) = _
            rw [hws, ← hrb, hxp, ← putW_some hxj hxp hno, xsm_putW]
      ·
        refine WL.assign rfl rfl (WL.nil (WX.then_normal (WC.cond_true rfl (WC.seq (WC.region (WL.assign rfl rfl (WL.nil (?_))))))))
        refine WX.then_normal (WC.ret (WX.block_ret (WX.then_ret (?_))))
        refine WX.ret1 (.inl rfl) Tryz.results28 rfl ?_
        have hh : goneS s d = true := hg
        have hh2 : ¬ n < 0 := by omega
        have e0 : rotE s d a n = 3 := by simp [rotE, hh, hh2, h12]
        rw [e0]
        exact ⟨_, rfl, rfl, h.mono (fun x hx => .inl hx.1), hw⟩
  ·
    rw [show decide (0 ≤ d ∧ d < (s.dn : Int) ∧ 0 ≤ a ∧ a < (s.sn : Int)) = false from decide_eq_false h12]
    refine WL.not rfl rfl (WL.move rfl rfl (WL.pass rfl rfl rfl rfl (WL.pass rfl rfl rfl rfl (WL.pickT rfl rfl rfl (WL.assign rfl rfl (WL.nil (WX.then_normal (?_))))))))
    refine WC.cond_true rfl (WC.seq (WC.region (WL.assign rfl rfl (WL.nil (WX.then_normal (WC.ret (WX.block_ret (?_))))))))
    refine WX.then_ret (?_)
    refine WX.ret1 (.inl rfl) Tryz.results28 rfl ?_
    have hh : ¬ inS s d a := h12
    have e0 : rotE s d a n = 1 := by simp [rotE, hh]
    rw [e0]
    exact ⟨_, rfl, rfl, h.mono (fun x hx => .inl hx.1), hw⟩
end Go.Proofs.YtggecdldnpildaaGreat
namespace Go.Proofs.YtggecdldnpildaaGreat
open Go.RowKit Go.HL
set_option maxRecDepth 100000

/-! more on racks that have power -/
theorem rotS_held (s : RA) (p q : Pl) (n : Int) : heldS (rotS s p n) q = if q = p then rotB (heldS s p) n else heldS s q := by
  rw [heldS_eq (rotS s p n), heldS_eq s q]
  unfold rotS
  cases h : newV s.waits p with
  | some u =>
    have h1 : newV (putW s.waits p (rotB (heldS s p) n)) q = if q = p then some (rotB (heldS s p) n) else newV s.waits q := by
      unfold newV putW
      rw [List.reverse_reverse, mget_put]
    simp only [h1]
    by_cases e : q = p
    · simp [e]
    · simp [e]
      rfl
  | none =>
    have h1 : lastS { s with last := mput s.last p (rotB (heldS s p) n) } q = if q = p then rotB (heldS s p) n else lastS s q := by
      unfold lastS
      simp only [mget_put]
      by_cases e : q = p <;> simp [e]
    simp only [h1]
    by_cases e : q = p
    · subst e
      simp [h]
    · simp [e]
theorem rotS_dn (s : RA) (p : Pl) (n : Int) : (rotS s p n).dn = s.dn := by unfold rotS; split <;> rfl
theorem rotS_sn (s : RA) (p : Pl) (n : Int) : (rotS s p n).sn = s.sn := by unfold rotS; split <;> rfl
theorem rotS_gone (s : RA) (p : Pl) (n d : Int) : goneS (rotS s p n) d = goneS s d := by
  unfold rotS
  split <;> rfl
theorem rotS_up {s : RA} (h : Up s) (p : Pl) (n : Int) : Up (rotS s p n) := by
  unfold rotS
  split
  · exact ⟨h.off, h.armed⟩
  · exact ⟨h.off, h.armed⟩
theorem mput_len {K V : Type} [DecidableEq K] {l : List (K × V)} {k : K} {v : V} (h : (mget l k).isSome = true) : (mput l k v).length = l.length := by
  induction l with
  | nil => cases h
  | cons p r ih =>
    obtain ⟨k', u⟩ := p
    simp only [mget] at h
    simp only [mput]
    by_cases e : k = k'
    · simp [e]
    · rw [if_neg e] at h
      simp [e, ih h]
theorem rotS_len (s : RA) (p : Pl) (n : Int) : (rotS s p n).waits.length = s.waits.length := by
  unfold rotS
  split
  · rename_i u h
    show (putW s.waits p _).length = _
    unfold putW
    rw [List.length_reverse, mput_len (by unfold newV at h; rw [h]; rfl), List.length_reverse]
  · rfl
end Go.Proofs.YtggecdldnpildaaGreat
namespace Go.Proofs.YtggecdldnpildaaGreat
open Go.RowKit Go.HL
set_option maxRecDepth 100000

/-! a drive that is lost, one that is replaced -/
theorem loseS_gone {s : RA} (h : s.ok) {d : Int} (hd : isS s d) (b : Bool) {x : Int} (hx : 0 ≤ x) : goneS (loseS s d b) x = if x = d then b else goneS s x := by
  have h1 := hd.1
  have h2 := hd.2
  have hl : d.toNat < s.gone.length := by rw [h.gl]; omega
  rw [goneS, show (loseS s d b).gone = s.gone.set d.toNat b from rfl, List.getD_eq_getElem?_getD, List.getElem?_set, goneS, List.getD_eq_getElem?_getD]
  by_cases e : x = d
  · subst e
    simp [hl]
  · have : ¬ d.toNat = x.toNat := by omega
    simp [e, this]
theorem LoseU {A : Nat → Prop} {w : World} {R : Nat} {s : RA} (h : RK A w R s) {d : Int} (hd : isS s d) :
    Calls Tryz.prog 18 [ptr R, vi d].toArray w (Ret fun v w' => v = vi 0 ∧ RK A w' R (loseS s d true) ∧ Chg A w w') := by
  refine (Lose_calls h d).mono ?_
  rintro e w' ⟨v, rfl, rfl, hR, k⟩
  rw [if_pos hd] at hR
  exact ⟨_, rfl, by rw [if_pos hd], hR, k⟩
/-! behind Arm -/
structure Arms (n i : Nat) (s : RA) : Prop where
  dn : s.dn = 3
  sn : s.sn = 4
  g0 : goneS s 0 = false
  g1 : goneS s 1 = true
  g2 : goneS s 2 = false
  armed : s.armed = true
  off : offS s = decide (n ≤ i)
  left : i < n → s.left = (n : Int) - i ∧ s.off = false
  len : s.waits.length ≤ i
theorem Arms.step {n i : Nat} {s t : RA} (h : Arms n i s) (e1 : t.dn = s.dn) (e2 : t.sn = s.sn) (e3 : t.gone = s.gone) (e4 : t.armed = (spendS s).armed) (e5 : t.off = (spendS s).off) (e6 : t.left = (spendS s).left) (hl : t.waits.length ≤ i + 1) : Arms n (i + 1) t := by
  have hg : ∀ d, goneS t d = goneS s d := fun d => by rw [goneS, goneS, e3]
  have h1 := h.armed
  have h2 := h.off
  have h3 : (spendS s).armed = true := by unfold spendS; split <;> exact h1
  by_cases hi : i < n
  · obtain ⟨h4, h5⟩ := h.left hi
    have h6 : offS s = false := by rw [h2]; simp; omega
    have h7 : spendS s = { s with left := s.left - 1 } := by
      unfold spendS
      rw [h6, h1]
      rfl
    rw [h7] at e4 e5 e6
    have e5' : t.off = false := e5.trans h5
    have e6' : t.left = (n : Int) - i - 1 := e6.trans (by show s.left - 1 = _; rw [h4])
    refine ⟨e1.trans h.dn, e2.trans h.sn, (hg 0).trans h.g0, (hg 1).trans h.g1, (hg 2).trans h.g2, e4.trans h1, ?_, fun h8 => ⟨?_, e5'⟩, hl⟩
    · unfold offS
      rw [e5', e4.trans h1, e6']
      simp
      omega
    · rw [e6']
      omega
  · have h6 : offS s = true := by rw [h2]; simp; omega
    have h7 : spendS s = { s with off := true } := by
      unfold spendS
      rw [h6]
      rfl
    rw [h7] at e4 e5
    refine ⟨e1.trans h.dn, e2.trans h.sn, (hg 0).trans h.g0, (hg 1).trans h.g1, (hg 2).trans h.g2, e4.trans h1, ?_, fun h8 => by omega, hl⟩
    unfold offS
    rw [show t.off = true from e5]
    simp
    omega
theorem Arms.flush {n i : Nat} {s : RA} (h : Arms n i s) : Arms n (i + 1) (flushS s) := by
  have hl := h.len
  unfold flushS
  split
  · exact h.step (spendS_dn s) (spendS_sn s) (spendS_gone s) rfl rfl rfl (by rw [spendS_waits]; omega)
  · exact h.step (spendS_dn s) (spendS_sn s) (spendS_gone s) rfl rfl rfl (Nat.zero_le _)
theorem Arms.write {n i : Nat} {s : RA} (h : Arms n i s) {d a : Int} {b : List UInt8} (hi : inS s d a) (hg : goneS s d = false) (hb : b.length = 128) : Arms n (i + 1) (writeS s d a b) ∧ writeE s d a b.length = (if offS s = true then 16 else 0) := by
  have hl := h.len
  have he : writeE s d a b.length = (if offS s = true then 16 else 0) := by
    rw [hb]
    simp [writeE, hi, hg]
  refine ⟨?_, he⟩
  unfold writeS
  rw [he]
  by_cases ho : offS s = true
  · rw [if_pos ho, if_neg (by decide), if_pos rfl]
    exact h.step (spendS_dn s) (spendS_sn s) (spendS_gone s) rfl rfl rfl (by rw [spendS_waits]; omega)
  · rw [if_neg ho, if_pos rfl]
    exact h.step (spendS_dn s) (spendS_sn s) (spendS_gone s) rfl rfl rfl (by
      show (s.waits ++ [_]).length ≤ _
      rw [List.length_append]
      simpa using hl)
end Go.Proofs.YtggecdldnpildaaGreat
namespace Go.Proofs.YtggecdldnpildaaGreat
open Go.RowKit Go.HL
set_option maxRecDepth 100000

theorem loseS_up {s : RA} (h : Up s) (d : Int) (b : Bool) : Up (loseS s d b) := ⟨h.off, h.armed⟩
/-- what is wanted of a sector -/
def wantV (B : Int → List UInt8) (v : Int) : List UInt8 := if 0 < v then B (v - 1) else zeros
/-- the last write to each of forty sectors: one more of it, or nought -/
structure Lasts (B : Int → List UInt8) (L : List Int) (s : RA) : Prop where
  dn : s.dn = 5
  sn : s.sn = 8
  up : Up s
  gone : ∀ d, goneS s d = false
  len : L.length = 40
  held : ∀ d a : Nat, d < 5 → a < 8 → heldS s ((d : Int), (a : Int)) = wantV B (L.getD (d * 8 + a) 0)
  val : ∀ j, 0 ≤ L.getD j 0 ∧ L.getD j 0 ≤ 100000
theorem Lasts.write {B : Int → List UInt8} {L : List Int} {s : RA} (h : Lasts B L s) {d a : Nat} (hd : d < 5) (ha : a < 8) {f : Int} (hf : 0 ≤ f ∧ f < 100000) : Lasts B (L.set (d * 8 + a) (1 + f)) (addS s ((d : Int), (a : Int)) (B f)) := by
  have hlen := h.len
  refine ⟨h.dn, h.sn, addS_up h.up _ _, h.gone, by rw [List.length_set, hlen], fun d2 a2 h2 h3 => ?_, fun j => ?_⟩
  · rw [addS_held, List.getD_eq_getElem?_getD, List.getElem?_set]
    by_cases e : d * 8 + a = d2 * 8 + a2
    · have e1 : d = d2 := by omega
      have e2 : a = a2 := by omega
      subst e1; subst e2
      rw [if_pos rfl, if_pos rfl, if_pos (by omega)]
      show B f = wantV B (1 + f)
      rw [wantV, if_pos (by omega), show 1 + f - 1 = f from by omega]
    · rw [if_neg (fun e2 => e (by injection e2 with e3 e4; have e3' : (d2 : Int) = d := e3; have e4' : (a2 : Int) = a := e4; omega)), if_neg e, h.held d2 a2 h2 h3, List.getD_eq_getElem?_getD]
  · rw [List.getD_eq_getElem?_getD, List.getElem?_set]
    split
    · split
      · show 0 ≤ 1 + f ∧ 1 + f ≤ 100000
        omega
      · show 0 ≤ (0 : Int) ∧ (0 : Int) ≤ 100000
        omega
    · rw [← List.getD_eq_getElem?_getD]
      exact h.val j
end Go.Proofs.YtggecdldnpildaaGreat
