import Derived.Test.YtgmkoieemmglpaaDe
namespace Go.Proofs.Ytgmkoieemmglpaa
open Go.RowKit Go.HL

/-! one snapshot is destroyed -/
def nextA (L : LA) (k : Nat) : List PtV := match L.snaps[k + 1]? with
  | some x => x.2
  | none => L.dead
def freeA (L : LA) (k : Nat) : List PtV := (nextA L k).filter fun p => decide (L.ahead k < p.b)
def keepA (L : LA) (k : Nat) : List PtV := ((L.snaps[k]?).map (·.2)).getD [] ++ (nextA L k).filter fun p => !decide (L.ahead k < p.b)
def destroyA (L : LA) (k : Nat) : LA := match L.snaps[k + 1]? with
  | some x => { L with snaps := (L.snaps.set (k + 1) (x.1, keepA L k)).take k ++ (L.snaps.set (k + 1) (x.1, keepA L k)).drop (k + 1) }
  | none => { L with snaps := L.snaps.take k ++ L.snaps.drop (k + 1), dead := keepA L k }
def DestR (L : LA) (k : Int) (L' : LA) (fr : List PtV) (e : Int) : Prop :=
  (¬ L.Right ∧ L' = LA.zero ∧ fr = [] ∧ e = 2) ∨ (L.Right ∧ (k < 0 ∨ (L.snaps.length : Int) ≤ k) ∧ L' = LA.zero ∧ fr = [] ∧ e = 1) ∨ (L.Right ∧ (0 ≤ k ∧ k < (L.snaps.length : Int)) ∧ L' = destroyA L k.toNat ∧ fr = freeA L k.toNat ∧ e = 0)
theorem DestR.uniq {L : LA} {k : Int} {L1 L2 : LA} {f1 f2 : List PtV} {e1 e2 : Int} (h : DestR L k L1 f1 e1) (g : DestR L k L2 f2 e2) : L1 = L2 ∧ f1 = f2 ∧ e1 = e2 := by
  rcases h with ⟨h1, h2, h3, h4⟩ | ⟨h1, h5, h2, h3, h4⟩ | ⟨h1, h5, h2, h3, h4⟩ <;> rcases g with ⟨k1, k2, k3, k4⟩ | ⟨k1, k5, k2, k3, k4⟩ | ⟨k1, k5, k2, k3, k4⟩
  all_goals first
    | exact ⟨h2.trans k2.symm, h3.trans k3.symm, h4.trans k4.symm⟩
    | exact absurd k1 h1
    | exact absurd h1 k1
    | (exfalso; omega)
/-- the rows of a line, but for the list of one snapshot -/
structure RX (S : Nat → Prop) (w : World) (T : TypeId) (k : Nat) (l : LnV) : Prop where
  snaps : Row S w T esn l.sao l.scap l.snaps
  rest : ∀ x ∈ l.snaps.take k ++ l.snaps.drop (k + 1), Row S w 27 ept x.ao x.cap x.dead
  dead : Row S w 27 ept l.dao l.dcap l.dead
section
variable {S M S' : Nat → Prop} {w w' : World} {T : TypeId} {k : Nat} {l : LnV}
theorem RX.chg (h : RX S w T k l) (q : Chg M w w') (hd : ∀ b, b < w.heap.size → S b → M b → False) : RX S w' T k l := ⟨h.snaps.chg q hd, fun x hx => (h.rest x hx).chg q hd, h.dead.chg q hd⟩
theorem RX.pure (h : RX S w T k l) (q : Chg Nob w w') : RX S w' T k l := h.chg q (fun _ _ _ x => x)
theorem RX.mono (h : RX S w T k l) (q : ∀ b, S b → S' b) : RX S' w T k l := ⟨h.snaps.mono q, fun x hx => (h.rest x hx).mono q, h.dead.mono q⟩
theorem RX.lt (h : RX S w T k l) : RX (fun b => S b ∧ b < w.heap.size) w T k l := ⟨h.snaps.lt, fun x hx => (h.rest x hx).lt, h.dead.lt⟩
/-- another row has grown -/
theorem RX.grow {a b b' : Option Addr} (h : RX (fun x => S x ∧ ¬ Eqb a x ∧ ¬ Eqb b x) w T k l) (g : Grow S' w b w' b') : RX (fun x => S x ∧ ¬ Eqb a x ∧ ¬ Eqb b' x) w' T k l := by
  refine (h.lt.chg g.chg (fun x _ h1 h2 => h1.1.2.2 h2.1)).mono (fun x hx => ⟨hx.1.1, hx.1.2.1, fun e => ?_⟩)
  rcases g.fr with e2 | e2
  · rw [e2] at e
    exact hx.1.2.2 e
  · have := e2.eqb e
    omega
theorem RX.swap {a b : Option Addr} (h : RX (fun x => S x ∧ ¬ Eqb a x ∧ ¬ Eqb b x) w T k l) : RX (fun x => S x ∧ ¬ Eqb b x ∧ ¬ Eqb a x) w T k l := h.mono (fun _ hx => ⟨hx.1, hx.2.2, hx.2.1⟩)
theorem Ap.eqb {a b : Option Addr} {x : Nat} (h : Ap a b) (h1 : Eqb a x) (h2 : Eqb b x) : False := by
  obtain ⟨p, rfl, e1⟩ := h1
  obtain ⟨q, rfl, e2⟩ := h2
  exact h p q rfl rfl (e1.symm.trans e2)
theorem Ap.grow {a b b' : Option Addr} (h : Ap a b) (ha : At (· < w.heap.size) a) (g : Grow S' w b w' b') : Ap a b' := by
  rcases g.fr with e | e
  · rw [e]; exact h
  · exact Ap.of ha e (fun x h1 h2 => by omega)
theorem Row.other {c : Nat} {ps : List PtV} {a b b' : Option Addr} (h : Row S w 27 ept a c ps) (hA : Ap a b) (g : Grow S' w b w' b') : Row S w' 27 ept a c ps := by
  have h1 : Row (fun x => S x ∧ Eqb a x) w 27 ept a c ps := ⟨fun p hp => ⟨h.at_ p hp, p, hp, rfl⟩, h.own⟩
  exact (h1.chg g.chg (fun x _ h2 h3 => hA.eqb h2.2 h3.1)).mono (fun x hx => hx.1)
/-- the list behind is one of those that are left -/
theorem RX.at (h : RX S w T k l) {x : SnV} (hx : l.snaps[k + 1]? = some x) : Row S w 27 ept x.ao x.cap x.dead := by
  refine h.rest x (List.mem_append_right _ ?_)
  have := List.getElem?_drop (xs := l.snaps) (i := k + 1) (j := 0)
  rw [Nat.add_zero, hx] at this
  exact List.mem_of_getElem? this
theorem RX.nxt (h : RX S w T k l) {nao : Option Addr} {ncap : Nat} {nl : List PtV} (hN : (∃ x1 : SnV, l.snaps[k + 1]? = some x1 ∧ nao = x1.ao ∧ ncap = x1.cap ∧ nl = x1.dead) ∨ (l.snaps[k + 1]? = none ∧ nao = l.dao ∧ ncap = l.dcap ∧ nl = l.dead)) : RSl S w ept nao ncap nl := by
  rcases hN with ⟨x1, hx1, rfl, rfl, rfl⟩ | ⟨hx1, rfl, rfl, rfl⟩
  · exact (h.at hx1).rsl
  · exact h.dead.rsl
/-- the rows of a line, each one of its own (some may be one) -/
structure LW (S : Nat → Prop) (w : World) (l : LnV) : Prop where
  snaps : Row S w 65 esn l.sao l.scap l.snaps
  dead : Row S w 27 ept l.dao l.dcap l.dead
  inner : ∀ x ∈ l.snaps, Row S w 27 ept x.ao x.cap x.dead
theorem LW.chg (h : LW S w l) (q : Chg M w w') (hd : ∀ b, b < w.heap.size → S b → M b → False) : LW S w' l := ⟨h.snaps.chg q hd, h.dead.chg q hd, fun x hx => (h.inner x hx).chg q hd⟩
theorem LW.pure (h : LW S w l) (q : Chg Nob w w') : LW S w' l := h.chg q (fun _ _ _ x => x)
theorem LW.mono (h : LW S w l) (q : ∀ b, S b → S' b) : LW S' w l := ⟨h.snaps.mono q, h.dead.mono q, fun x hx => (h.inner x hx).mono q⟩
theorem LW.lt (h : LW S w l) : LW (fun b => S b ∧ b < w.heap.size) w l := ⟨h.snaps.lt, h.dead.lt, fun x hx => (h.inner x hx).lt⟩
theorem LW.ls (h : LW S w l) : LS S w l := ⟨h.snaps.rsl, h.dead.rsl, fun x hx => (h.inner x hx).rsl⟩
/-- the snapshot is left out -/
theorem RX.delW {gs : Nat} (h : RX S w 65 k l) (hsa : l.sao = some ⟨gs, 0, none⟩) (hR : Row S w' 65 esn l.sao l.scap (l.snaps.take k ++ l.snaps.drop (k + 1))) (q : Chg (· = gs) w w') : LW S w' { l with snaps := l.snaps.take k ++ l.snaps.drop (k + 1) } := by
  have hk : kb w gs = some (some 65) := (h.snaps.kb.at_ _ hsa).2
  have hd : ∀ b, b < w.heap.size → b = gs → kb w b ≠ some (some 27) := by
    rintro b _ rfl e
    rw [hk] at e
    injection e with e
    injection e with e
    exact absurd e (by decide)
  exact ⟨hR, h.dead.chgK q hd, fun x hx => (h.rest x hx).chgK q hd⟩
theorem RX.del {gs : Nat} (h : RX S w T k l) (hT : T ≠ 27) (hsa : l.sao = some ⟨gs, 0, none⟩) (hR : Row S w' T esn l.sao l.scap (l.snaps.take k ++ l.snaps.drop (k + 1))) (q : Chg (· = gs) w w') : LS S w' { l with snaps := l.snaps.take k ++ l.snaps.drop (k + 1) } := by
  have hk : kb w gs = some (some T) := (h.snaps.kb.at_ _ hsa).2
  have hd : ∀ b, b < w.heap.size → b = gs → kb w b ≠ some (some 27) := by
    rintro b _ rfl e
    rw [hk] at e
    injection e with e
    injection e with e
    exact hT e
  exact ⟨hR.rsl, (h.dead.chgK q hd).rsl, fun x hx => ((h.rest x hx).chgK q hd).rsl⟩
/-- a snapshot's list is laid anew -/
theorem RX.put {gs : Nat} (h : RX S w T k l) (hT : T ≠ 27) (hsa : l.sao = some ⟨gs, 0, none⟩) {y : SnV} (hy : Row S w 27 ept y.ao y.cap y.dead) (hR : Row S w' T esn l.sao l.scap (l.snaps.set (k + 1) y)) (q : Chg (· = gs) w w') : RX S w' T k { l with snaps := l.snaps.set (k + 1) y } := by
  have hk : kb w gs = some (some T) := (h.snaps.kb.at_ _ hsa).2
  have hd : ∀ b, b < w.heap.size → b = gs → kb w b ≠ some (some 27) := by
    rintro b _ rfl e
    rw [hk] at e
    injection e with e
    injection e with e
    exact hT e
  refine ⟨hR, fun x hx => ?_, h.dead.chgK q hd⟩
  have hx' : x ∈ (l.snaps.set (k + 1) y).take k ++ (l.snaps.set (k + 1) y).drop (k + 1) := hx
  rcases List.mem_append.1 hx' with h1 | h1
  · rw [List.take_set_of_le (by omega)] at h1
    exact (h.rest x (List.mem_append_left _ h1)).chgK q hd
  · obtain ⟨j, hj, e⟩ := List.getElem_of_mem h1
    rw [List.getElem_drop, List.getElem_set] at e
    split at e
    · rw [← e]
      exact hy.chgK q hd
    · refine (h.rest x (List.mem_append_right _ ?_)).chgK q hd
      rw [← e]
      have hjl : k + 1 + j < l.snaps.length := by simp at hj; omega
      have := List.getElem?_drop (xs := l.snaps) (i := k + 1) (j := j)
      rw [List.getElem?_eq_getElem hjl] at this
      exact List.mem_of_getElem? this
theorem Row.neB {g c c2 : Nat} {xs : List SnV} {a : Option Addr} {ps : List PtV} (hs : Row S' w 65 esn (some ⟨g, 0, none⟩) c xs) (h : Row S w 27 ept a c2 ps) : Row (fun b => S b ∧ b ≠ g) w 27 ept a c2 ps := by
  have h1 : kb w g = some (some 65) := (hs.kb.at_ _ rfl).2
  refine h.kb.mono (fun b hb => ⟨hb.1, fun e => ?_⟩)
  have h2 := hb.2
  rw [e, h1] at h2
  exact absurd h2 (by decide)
theorem LOi.part (h : LO S w T l) (hT : T ≠ 27) {x : SnV} (hx : l.snaps[k]? = some x) : RX (fun b => S b ∧ ¬ Eqb x.ao b ∧ ¬ Eqb none b) w T k l ∧ Row S w 27 ept x.ao x.cap x.dead := by
  have hk := (List.getElem?_eq_some_iff.1 hx).1
  have hx0 := h.inner k x hk hx
  have hno : ∀ b, ¬ Eqb none b := fun b ⟨a, e, _⟩ => by cases e
  have ap : ∀ {z : Option Addr} {c : Nat} {ps : List PtV}, Row S w 27 ept z c ps → Ap x.ao z → Row (fun b => S b ∧ ¬ Eqb x.ao b ∧ ¬ Eqb none b) w 27 ept z c ps := fun hz hA => ⟨fun a ea => ⟨hz.at_ a ea, fun hb => hA.eqb hb ⟨a, ea, rfl⟩, hno _⟩, hz.own⟩
  refine ⟨⟨⟨fun a ea => ⟨h.snaps.at_ a ea, fun hb => ?_, hno _⟩, h.snaps.own⟩, fun y hy => ?_, ap h.dead (h.ap1 k x hk hx)⟩, hx0⟩
  · have h1 := (h.snaps.kb.at_ a ea).2
    have h2 := (hx0.kb.at_.eqb hb).2
    rw [h1] at h2
    injection h2 with h2
    injection h2 with h2
    exact hT h2
  · rcases List.mem_append.1 hy with hy | hy
    · obtain ⟨j, hj, e⟩ := List.getElem_of_mem hy
      have hjk : j < k := by simp at hj; omega
      have hy2 : l.snaps[j]? = some y := by rw [← e, List.getElem_take]; exact List.getElem?_eq_getElem (by omega)
      exact ap (h.inner j y (by omega) hy2) (h.ap2 j k y x hjk hk hy2 hx).symm
    · obtain ⟨j, hj, e⟩ := List.getElem_of_mem hy
      have hy2 : l.snaps[k + 1 + j]? = some y := by rw [← e, List.getElem_drop]; exact List.getElem?_eq_getElem (by simp at hj; omega)
      have hjl := (List.getElem?_eq_some_iff.1 hy2).1
      exact ap (h.inner (k + 1 + j) y hjl hy2) (h.ap2 k (k + 1 + j) x y (by omega) hjl hx hy2)
end
theorem sabs_set' (sn : List SnV) (j : Nat) (y : SnV) : sabs (sn.set j y) = (sabs sn).set j (y.txg, y.dead) := by simp [sabs, List.map_set]
theorem sabs_cut (sn : List SnV) (k : Nat) : sabs (sn.take k ++ sn.drop (k + 1)) = (sabs sn).take k ++ (sabs sn).drop (k + 1) := by simp [sabs, List.map_take, List.map_drop]
theorem dest_A {sn : List SnV} {L : LA} (hS : L.snaps = sabs sn) {k : Nat} {x0 x1 : SnV} (hx0 : sn[k]? = some x0) (hx1 : sn[k + 1]? = some x1) {st : List PtV} (hst : st = x0.dead ++ x1.dead.filter (fun p => !decide (L.ahead k < p.b))) (sao : Option Addr) (sc2 : Nat) :
    LA.mk L.base (sabs ((sn.set (k + 1) ⟨x1.txg, sao, sc2, st⟩).take k ++ (sn.set (k + 1) ⟨x1.txg, sao, sc2, st⟩).drop (k + 1))) L.dead = destroyA L k ∧ nextA L k = x1.dead := by
  have h1 : L.snaps[k + 1]? = some (x1.txg, x1.dead) := by rw [hS]; exact sabs_at hx1
  have h0 : L.snaps[k]? = some (x0.txg, x0.dead) := by rw [hS]; exact sabs_at hx0
  have hn : nextA L k = x1.dead := by simp [nextA, h1]
  refine ⟨?_, hn⟩
  have hk : keepA L k = st := by rw [keepA, h0, hn, hst]; rfl
  rw [sabs_cut, sabs_set', destroyA, h1]
  simp only [hk, hS]
theorem dest_B {sn : List SnV} {L : LA} (hS : L.snaps = sabs sn) {k : Nat} {x0 : SnV} (hx0 : sn[k]? = some x0) (hx1 : sn[k + 1]? = none) {st : List PtV} (hst : st = x0.dead ++ L.dead.filter (fun p => !decide (L.ahead k < p.b))) :
    LA.mk L.base (sabs (sn.take k ++ sn.drop (k + 1))) st = destroyA L k ∧ nextA L k = L.dead := by
  have h1 : L.snaps[k + 1]? = none := by rw [hS]; simp [sabs] at hx1 ⊢; exact hx1
  have h0 : L.snaps[k]? = some (x0.txg, x0.dead) := by rw [hS]; exact sabs_at hx0
  have hn : nextA L k = L.dead := by simp [nextA, h1]
  refine ⟨?_, hn⟩
  have hk : keepA L k = st := by rw [keepA, h0, hn, hst]; rfl
  rw [sabs_cut, destroyA, h1]
  simp only [hk, hS]
set_option maxHeartbeats 4000000 in
theorem DestroyO_calls {S : Nat → Prop} {w : World} {l : LnV} (h : LS S w l) (hs : Sm 50 l) (k : Int) (hk : -9223372036854775808 ≤ k ∧ k ≤ 9223372036854775807) (hz : l.dead.length ≤ 1700000000000 ∧ ∀ x ∈ l.snaps, x.dead.length ≤ 1700000000000) :
    Calls Try.prog 19 [lval l, vi k].toArray w (Ret fun v w' => (∃ l' fao fc fr e, v = .tuple #[lval l', .slice fao fr.length fc, vi e] ∧ DestR l.abs k l'.abs fr e ∧ LW (w.heap.size ≤ ·) w' l' ∧ Row (w.heap.size ≤ ·) w' 27 ept fao fc fr) ∧ Chg Nob w w') := by
  have hw := Chg.refl Nob w
  have hsn := hs.snaps
  have hsd := hs.dead
  have hs6 : Sm 60 l := ⟨by omega, by omega, fun x hx => by have := hs.inner x hx; omega⟩
  replace h := h.old
  refine Calls.of_WC Try.func19 rfl Try.ntmps19 (by simp) ?_
  refine WC.seq (WC.region (?_))
  refine WL.box rfl rfl ?_
  intro g_1 w_1 hge_1 hlt_1 hb_1 k_1
  have zs_k_1 := k_1.size
  replace h := h.pure k_1
  replace hw := hw.pure k_1
  refine WL.alloc Try.zeroValue33 rfl ?_
  intro g_2 w_2 hge_2 hlt_2 hb_2 k_2
  have zs_k_2 := k_2.size
  replace h := h.pure k_2
  replace hw := hw.pure k_2
  replace hb_1 := hb_1.pure k_2
  refine WL.assign rfl rfl (WL.assign rfl rfl (WL.nil (WX.then_normal (WC.seq (WC.block (WC.seq (WC.region (?_))))))))
  refine WL.loadsB Try.isAgg33 Try.sizeOf33 hb_1 rfl (by first | (simp; done) | (simp; omega) | rfl) rfl (?_)
  refine WL.call eg_9 rfl rfl (Check_calls h hs6) ?_
  rintro v w2 ⟨⟨e, rfl, he⟩, k2⟩
  have zs_k2 := k2.size
  replace h := h.pure k2
  replace hw := hw.pure k2
  replace hb_1 := hb_1.pure k2
  replace hb_2 := hb_2.pure k2
  refine WL.neq? rfl rfl rfl (fun h15 => ?_) (fun h15 => ?_)
  ·
    refine WL.assign rfl rfl (WL.nil (WX.then_normal (WC.cond_true rfl (WC.seq (WC.region (WL.bld rfl (bld_33_z) rfl (?_)))))))
    refine WL.stores Try.sizeOf33 hb_2 rfl rfl (by first | (simp; done) | (simp; omega) | rfl) (by first | exact Enc.one _ _ | (intro u hu; obtain ⟨x, _, rfl⟩ := List.mem_map.1 hu; rfl) | (simp [Value.oneCell']; done) | (simp [Value.oneCell', Value.cells]; done)) (by first | (simp; done) | (simp; omega) | (simp [Value.cells]; done) | (simp [Value.cells]; omega) | exact Nat.le_of_ble_eq_true rfl) rfl ?_
    intro w_3 hs_3 hn_3 k_3
    have zs_k_3 := k_3.size
    replace h := h.chg k_3 (by first | (intro x h1 h2; have h3 : _ = _ := h2; exfalso; omega) | (intro b h1 h2 h3; have h4 : _ = _ := h3; (try dsimp only at h2); exfalso; omega) | (intro h1; have h2 : _ = _ := h1; exfalso; omega) | (intros; exfalso; (try dsimp only at *); omega) | (intro h1; exfalso; have h4 := h1.2; (try dsimp only at *); omega))
    replace hw := hw.chg k_3 (by first | (intro x h1 h2; have h3 : _ = _ := h2; exfalso; omega) | (intro b h1 h2 h3; have h4 : _ = _ := h3; (try dsimp only at h2); exfalso; omega) | (intro h1; have h2 : _ = _ := h1; exfalso; omega) | (intros; exfalso; (try dsimp only at *); omega) | (intro h1; exfalso; have h4 := h1.2; (try dsimp only at *); omega))
    replace hb_1 := hb_1.chg k_3 (by first | (intro x h1 h2; have h3 : _ = _ := h2; exfalso; omega) | (intro b h1 h2 h3; have h4 : _ = _ := h3; (try dsimp only at h2); exfalso; omega) | (intro h1; have h2 : _ = _ := h1; exfalso; omega) | (intros; exfalso; (try dsimp only at *); omega) | (intro h1; exfalso; have h4 := h1.2; (try dsimp only at *); omega))
    replace hb_2 := hn_3
    refine WL.assign rfl rfl (WL.assign rfl rfl (WL.nil (WX.then_normal (WC.ret (WX.block_ret (WX.then_ret (?_)))))))
    refine WX.ret3c (.inl rfl) Try.results19 Try.isAgg33 Try.sizeOf33 hb_2 rfl (by first | (simp; done) | (simp; omega) | rfl) rfl rfl ?_
    first
      | (have hh : e ≠ 0 := h15
         have h2 : e = 2 ∧ ¬ l.abs.Right := by
           rcases he with ⟨h1, _⟩ | h1
           ·
             exact absurd h1 hh
           ·
             exact h1
         exact ⟨_, rfl, ⟨⟨0, none, 0, [], none, 0, []⟩, none, 0, [], 2, rfl, .inl ⟨h2.2, rfl, rfl, rfl⟩, ⟨Row.nil _ _ _ _, Row.nil _ _ _ _, fun x hx => by cases hx⟩, Row.nil _ _ _ _⟩, hw⟩)
      | (have hh : k < 0 ∨ (l.abs.snaps.length : Int) ≤ k := by
           rw [show l.abs.snaps.length = l.snaps.length from sabs_len _]
           omega
         have hR : l.abs.Right := by
           rcases he with ⟨_, h1⟩ | ⟨h1, _⟩
           ·
             exact h1
           ·
             omega
         exact ⟨_, rfl, ⟨⟨0, none, 0, [], none, 0, []⟩, none, 0, [], 1, rfl, .inr (.inl ⟨hR, hh, rfl, rfl, rfl⟩), ⟨Row.nil _ _ _ _, Row.nil _ _ _ _, fun x hx => by cases hx⟩, Row.nil _ _ _ _⟩, hw⟩)
      | (refine ⟨_, rfl, ⟨⟨ba, some ⟨gs, 0, none⟩, sc, sn2.take kk ++ sn2.drop (kk + 1), dao2, dcap2, dead2⟩, fao, fc, fr, 0, rfl, .inr (.inr ⟨hR, ?_, hd6, hf6, rfl⟩), hL.mono (fun x hx => hx.1), hFr.mono (fun x hx => hx.1)⟩, hw⟩
         rw [show l.abs.snaps.length = l.snaps.length from sabs_len _]
         omega)
  ·
    refine WL.assign rfl rfl (WL.nil (WX.then_normal (WC.cond_false rfl (WC.seq (WC.region (WL.move rfl rfl (?_)))))))
    refine WL.lss? rfl rfl rfl (fun h19 => ?_) (fun h19 => ?_)
    ·
      refine WL.move rfl rfl (WL.pass rfl rfl rfl rfl (WL.pass rfl rfl rfl rfl (WL.pass rfl rfl rfl rfl (WL.pass rfl rfl rfl rfl (WL.pass rfl rfl rfl rfl (WL.pickT rfl rfl rfl (WL.assign rfl rfl (?_))))))))
      refine WL.nil (WX.then_normal (WC.cond_true rfl (WC.seq (WC.region (WL.bld rfl (bld_33_z) rfl (?_))))))
      refine WL.stores Try.sizeOf33 hb_2 rfl rfl (by first | (simp; done) | (simp; omega) | rfl) (by first | exact Enc.one _ _ | (intro u hu; obtain ⟨x, _, rfl⟩ := List.mem_map.1 hu; rfl) | (simp [Value.oneCell']; done) | (simp [Value.oneCell', Value.cells]; done)) (by first | (simp; done) | (simp; omega) | (simp [Value.cells]; done) | (simp [Value.cells]; omega) | exact Nat.le_of_ble_eq_true rfl) rfl ?_
      intro w_3 hs_3 hn_3 k_3
      have zs_k_3 := k_3.size
      replace h := h.chg k_3 (by first | (intro x h1 h2; have h3 : _ = _ := h2; exfalso; omega) | (intro b h1 h2 h3; have h4 : _ = _ := h3; (try dsimp only at h2); exfalso; omega) | (intro h1; have h2 : _ = _ := h1; exfalso; omega) | (intros; exfalso; (try dsimp only at *); omega) | (intro h1; exfalso; have h4 := h1.2; (try dsimp only at *); omega))
      replace hw := hw.chg k_3 (by first | (intro x h1 h2; have h3 : _ = _ := h2; exfalso; omega) | (intro b h1 h2 h3; have h4 : _ = _ := h3; (try dsimp only at h2); exfalso; omega) | (intro h1; have h2 : _ = _ := h1; exfalso; omega) | (intros; exfalso; (try dsimp only at *); omega) | (intro h1; exfalso; have h4 := h1.2; (try dsimp only at *); omega))
      replace hb_1 := hb_1.chg k_3 (by first | (intro x h1 h2; have h3 : _ = _ := h2; exfalso; omega) | (intro b h1 h2 h3; have h4 : _ = _ := h3; (try dsimp only at h2); exfalso; omega) | (intro h1; have h2 : _ = _ := h1; exfalso; omega) | (intros; exfalso; (try dsimp only at *); omega) | (intro h1; exfalso; have h4 := h1.2; (try dsimp only at *); omega))
      replace hb_2 := hn_3
      refine WL.assign rfl rfl (WL.assign rfl rfl (WL.nil (WX.then_normal (WC.ret (WX.block_ret (WX.then_ret (?_)))))))
      refine WX.ret3c (.inl rfl) Try.results19 Try.isAgg33 Try.sizeOf33 hb_2 rfl (by first | (simp; done) | (simp; omega) | rfl) rfl rfl ?_
      first
        | (have hh : e ≠ 0 := h15
           have h2 : e = 2 ∧ ¬ l.abs.Right := by
             rcases he with ⟨h1, _⟩ | h1
             ·
               exact absurd h1 hh
             ·
               exact h1
           exact ⟨_, rfl, ⟨⟨0, none, 0, [], none, 0, []⟩, none, 0, [], 2, rfl, .inl ⟨h2.2, rfl, rfl, rfl⟩, ⟨Row.nil _ _ _ _, Row.nil _ _ _ _, fun x hx => by cases hx⟩, Row.nil _ _ _ _⟩, hw⟩)
        | (have hh : k < 0 ∨ (l.abs.snaps.length : Int) ≤ k := by
             rw [show l.abs.snaps.length = l.snaps.length from sabs_len _]
             omega
           have hR : l.abs.Right := by
             rcases he with ⟨_, h1⟩ | ⟨h1, _⟩
             ·
               exact h1
             ·
               omega
           exact ⟨_, rfl, ⟨⟨0, none, 0, [], none, 0, []⟩, none, 0, [], 1, rfl, .inr (.inl ⟨hR, hh, rfl, rfl, rfl⟩), ⟨Row.nil _ _ _ _, Row.nil _ _ _ _, fun x hx => by cases hx⟩, Row.nil _ _ _ _⟩, hw⟩)
        | (refine ⟨_, rfl, ⟨⟨ba, some ⟨gs, 0, none⟩, sc, sn2.take kk ++ sn2.drop (kk + 1), dao2, dcap2, dead2⟩, fao, fc, fr, 0, rfl, .inr (.inr ⟨hR, ?_, hd6, hf6, rfl⟩), hL.mono (fun x hx => hx.1), hFr.mono (fun x hx => hx.1)⟩, hw⟩
           rw [show l.abs.snaps.length = l.snaps.length from sabs_len _]
           omega)
    ·
      refine WL.move rfl rfl (WL.want rfl rfl rfl (WL.move rfl rfl (WL.want rfl rfl rfl (WL.fieldAddr (fld_33_1) rfl rfl (WL.want rfl rfl rfl (WL.loadB Try.isAgg31 hb_1 rfl rfl rfl (WL.want rfl rfl rfl (?_))))))))
      refine WL.len Try.underlying31 rfl rfl (WL.want rfl rfl rfl (?_))
      refine WL.geq? rfl rfl rfl (fun h25 => ?_) (fun h25 => ?_)
      ·
        refine WL.pickF rfl rfl rfl (WL.assign rfl rfl (WL.nil (WX.then_normal (WC.cond_true rfl (WC.seq (WC.region (WL.bld rfl (bld_33_z) rfl (?_))))))))
        refine WL.stores Try.sizeOf33 hb_2 rfl rfl (by first | (simp; done) | (simp; omega) | rfl) (by first | exact Enc.one _ _ | (intro u hu; obtain ⟨x, _, rfl⟩ := List.mem_map.1 hu; rfl) | (simp [Value.oneCell']; done) | (simp [Value.oneCell', Value.cells]; done)) (by first | (simp; done) | (simp; omega) | (simp [Value.cells]; done) | (simp [Value.cells]; omega) | exact Nat.le_of_ble_eq_true rfl) rfl ?_
        intro w_3 hs_3 hn_3 k_3
        have zs_k_3 := k_3.size
        replace h := h.chg k_3 (by first | (intro x h1 h2; have h3 : _ = _ := h2; exfalso; omega) | (intro b h1 h2 h3; have h4 : _ = _ := h3; (try dsimp only at h2); exfalso; omega) | (intro h1; have h2 : _ = _ := h1; exfalso; omega) | (intros; exfalso; (try dsimp only at *); omega) | (intro h1; exfalso; have h4 := h1.2; (try dsimp only at *); omega))
        replace hw := hw.chg k_3 (by first | (intro x h1 h2; have h3 : _ = _ := h2; exfalso; omega) | (intro b h1 h2 h3; have h4 : _ = _ := h3; (try dsimp only at h2); exfalso; omega) | (intro h1; have h2 : _ = _ := h1; exfalso; omega) | (intros; exfalso; (try dsimp only at *); omega) | (intro h1; exfalso; have h4 := h1.2; (try dsimp only at *); omega))
        replace hb_1 := hb_1.chg k_3 (by first | (intro x h1 h2; have h3 : _ = _ := h2; exfalso; omega) | (intro b h1 h2 h3; have h4 : _ = _ := h3; (try dsimp only at h2); exfalso; omega) | (intro h1; have h2 : _ = _ := h1; exfalso; omega) | (intros; exfalso; (try dsimp only at *); omega) | (intro h1; exfalso; have h4 := h1.2; (try dsimp only at *); omega))
        replace hb_2 := hn_3
        refine WL.assign rfl rfl (WL.assign rfl rfl (WL.nil (WX.then_normal (WC.ret (WX.block_ret (WX.then_ret (?_)))))))
        refine WX.ret3c (.inl rfl) Try.results19 Try.isAgg33 Try.sizeOf33 hb_2 rfl (by first | (simp; done) | (simp; omega) | rfl) rfl rfl ?_
        first
          | (have hh : e ≠ 0 := h15
             have h2 : e = 2 ∧ ¬ l.abs.Right := by
               rcases he with ⟨h1, _⟩ | h1
               ·
                 exact absurd h1 hh
               ·
                 exact h1
             exact ⟨_, rfl, ⟨⟨0, none, 0, [], none, 0, []⟩, none, 0, [], 2, rfl, .inl ⟨h2.2, rfl, rfl, rfl⟩, ⟨Row.nil _ _ _ _, Row.nil _ _ _ _, fun x hx => by cases hx⟩, Row.nil _ _ _ _⟩, hw⟩)
          | (have hh : k < 0 ∨ (l.abs.snaps.length : Int) ≤ k := by
               rw [show l.abs.snaps.length = l.snaps.length from sabs_len _]
               omega
             have hR : l.abs.Right := by
               rcases he with ⟨_, h1⟩ | ⟨h1, _⟩
               ·
                 exact h1
               ·
                 omega
             exact ⟨_, rfl, ⟨⟨0, none, 0, [], none, 0, []⟩, none, 0, [], 1, rfl, .inr (.inl ⟨hR, hh, rfl, rfl, rfl⟩), ⟨Row.nil _ _ _ _, Row.nil _ _ _ _, fun x hx => by cases hx⟩, Row.nil _ _ _ _⟩, hw⟩)
          | (refine ⟨_, rfl, ⟨⟨ba, some ⟨gs, 0, none⟩, sc, sn2.take kk ++ sn2.drop (kk + 1), dao2, dcap2, dead2⟩, fao, fc, fr, 0, rfl, .inr (.inr ⟨hR, ?_, hd6, hf6, rfl⟩), hL.mono (fun x hx => hx.1), hFr.mono (fun x hx => hx.1)⟩, hw⟩
             rw [show l.abs.snaps.length = l.snaps.length from sabs_len _]
             omega)
      ·
        refine WL.pickF rfl rfl rfl (WL.assign rfl rfl (WL.nil (WX.then_normal (WC.cond_false rfl (WC.skip (WX.block_normal (WX.then_normal (?_))))))))
        refine WC.seq (WC.region (WL.loadsB Try.isAgg33 Try.sizeOf33 hb_1 rfl (by first | (simp; done) | (simp; omega) | rfl) rfl (?_)))
        have hR : l.abs.Right := by
          rcases he with ⟨_, h1⟩ | ⟨h1, _⟩
          ·
            exact h1
          ·
            omega
        refine WL.call eg_30 rfl rfl (lclone_calls h hs6) ?_
        rintro v w3 ⟨⟨⟨ba, sa, sc, sn, da, dc, de⟩, rfl, hO, ha⟩, k3⟩
        have hll : sn.length = l.snaps.length := abs_len ha
        have hld : de = l.dead := abs_dead ha
        have hsa : sabs sn = sabs l.snaps := congrArg LA.snaps ha
        obtain ⟨kk, rfl⟩ : ∃ kk : Nat, k = (kk : Int) := ⟨k.toNat, by omega⟩
        have zs_k3 := k3.size
        replace hw := hw.pure k3
        replace hb_1 := hb_1.pure k3
        replace hb_2 := hb_2.pure k3
        replace hO := LOi.mono (S' := fun x => w.heap.size ≤ x ∧ x ≠ g_1 ∧ x ≠ g_2) hO (fun x hx => by omega)
        obtain ⟨x0, hx0⟩ : ∃ x0, sn[kk]? = some x0 := ⟨_, List.getElem?_eq_getElem (by omega)⟩
        obtain ⟨gs, rfl⟩ : ∃ gs, sa = some ⟨gs, 0, none⟩ := hO.snaps.place0 (j := kk) (show kk < sn.length from by omega)
        obtain ⟨hX, hSt⟩ := hO.part (by decide) hx0
        have hzs : ∀ x ∈ sn, x.dead.length ≤ 1700000000000 := fun x hx => by
          have h1 : (x.txg, x.dead) ∈ sabs sn := List.mem_map.2 ⟨x, hx, rfl⟩
          rw [hsa] at h1
          obtain ⟨y, hy, e1⟩ := List.mem_map.1 h1
          injection e1 with e1 e2
          rw [← e2]
          exact hz.2 y hy
        have hzx := hzs x0 (List.mem_of_getElem? hx0)
        clear hO
        refine WL.stores Try.sizeOf33 hb_1 rfl rfl (by first | (simp; done) | (simp; omega) | rfl) (by first | exact Enc.one _ _ | (intro u hu; obtain ⟨x, _, rfl⟩ := List.mem_map.1 hu; rfl) | (simp [Value.oneCell']; done) | (simp [Value.oneCell', Value.cells]; done)) (by first | (simp; done) | (simp; omega) | (simp [Value.cells]; done) | (simp [Value.cells]; omega) | exact Nat.le_of_ble_eq_true rfl) rfl ?_
        intro w_3 hs_3 hn_3 k_3
        have zs_k_3 := k_3.size
        replace hw := hw.chg k_3 (by first | (intro x h1 h2; have h3 : _ = _ := h2; exfalso; omega) | (intro b h1 h2 h3; have h4 : _ = _ := h3; (try dsimp only at h2); exfalso; omega) | (intro h1; have h2 : _ = _ := h1; exfalso; omega) | (intros; exfalso; (try dsimp only at *); omega) | (intro h1; exfalso; have h4 := h1.2; (try dsimp only at *); omega))
        replace hb_2 := hb_2.chg k_3 (by first | (intro x h1 h2; have h3 : _ = _ := h2; exfalso; omega) | (intro b h1 h2 h3; have h4 : _ = _ := h3; (try dsimp only at h2); exfalso; omega) | (intro h1; have h2 : _ = _ := h1; exfalso; omega) | (intros; exfalso; (try dsimp only at *); omega) | (intro h1; exfalso; have h4 := h1.2; (try dsimp only at *); omega))
        replace hX := hX.chg k_3 (by first | (intro x h1 h2; have h3 : _ = _ := h2; exfalso; omega) | (intro b h1 h2 h3; have h4 : _ = _ := h3; (try dsimp only at h2); exfalso; omega) | (intro h1; have h2 : _ = _ := h1; exfalso; omega) | (intros; exfalso; (try dsimp only at *); omega) | (intro h1; exfalso; have h4 := h1.2; (try dsimp only at *); omega))
        replace hSt := hSt.chg k_3 (by first | (intro x h1 h2; have h3 : _ = _ := h2; exfalso; omega) | (intro b h1 h2 h3; have h4 : _ = _ := h3; (try dsimp only at h2); exfalso; omega) | (intro h1; have h2 : _ = _ := h1; exfalso; omega) | (intros; exfalso; (try dsimp only at *); omega) | (intro h1; exfalso; have h4 := h1.2; (try dsimp only at *); omega))
        replace hb_1 := hn_3
        refine WL.nil (WX.then_normal (WC.seq (WC.region (?_))))
        have hb4 : Blk _ g_1 33 (lcells ⟨ba, some ⟨gs, 0, none⟩, sc, sn, da, dc, de⟩) := hb_1
        refine WL.fieldAddr fld_33_2 rfl rfl ?_
        refine WL.assign rfl rfl (WL.nil (WX.then_normal (WC.seq (WC.seq (WC.region (WL.move rfl rfl (WL.add64 rfl rfl (by first | omega | (constructor <;> omega)) rfl (?_))))))))
        refine WL.fieldAddr (fld_33_1) rfl rfl (WL.loadB Try.isAgg31 hb4 rfl rfl rfl (WL.len Try.underlying31 rfl rfl (?_)))
        refine WL.lss? rfl rfl rfl (fun h36 => ?_) (fun h36 => ?_)
        ·
          refine WL.nil (WX.then_normal (WC.cond_true rfl (WC.region (WL.fieldAddr (fld_33_1) rfl rfl (WL.loadB Try.isAgg31 hb4 rfl rfl rfl (WL.move rfl rfl (WL.add64 rfl rfl (by first | omega | (constructor <;> omega)) rfl (?_))))))))
          have h36' : (kk : Int) + 1 < (sn.length : Int) := h36
          refine WL.index (j := kk + 1) Try.underlying31 Try.sizeOf65 rfl rfl (by omega) (by show kk + 1 < sn.length; omega) rfl ?_
          refine WL.fieldAddr (fld_65_1) rfl rfl (WL.assign rfl rfl (WL.nil (WX.then_normal (WC.seq (WC.region (WL.fieldAddr (fld_33_1) rfl rfl (WL.loadB Try.isAgg31 hb4 rfl rfl rfl (?_))))))))
          refine WL.move rfl rfl (?_)
          refine WL.index (j := kk) Try.underlying31 Try.sizeOf65 rfl rfl rfl (by show kk < sn.length; omega) rfl ?_
          refine WL.fieldAddr (fld_65_1) rfl rfl (?_)
          refine WL.load Try.isAgg23 rfl (hX.snaps.rsl.cellsAt hx0 1 _ rfl) rfl ?_
          refine WL.assign rfl rfl (WL.nil (WX.then_normal (WC.seq (WC.region (WL.assign rfl rfl (WL.nil (WX.then_normal (?_))))))))
          refine WC.seq (WC.seq (WC.region (WL.move rfl rfl (WL.nilCheck rfl rfl (?_)))))
          obtain ⟨nao, ncap, nl, hNx⟩ : ∃ (nao : Option Addr) (ncap : Nat) (nl : List PtV), (∃ x1 : SnV, sn[kk + 1]? = some x1 ∧ nao = x1.ao ∧ ncap = x1.cap ∧ nl = x1.dead) ∨ (sn[kk + 1]? = none ∧ nao = da ∧ ncap = dc ∧ nl = de) := by
            cases hq : sn[kk + 1]? with
            | none => exact ⟨da, dc, de, .inr ⟨rfl, rfl, rfl, rfl⟩⟩
            | some x1 => exact ⟨x1.ao, x1.cap, x1.dead, .inl ⟨x1, rfl, rfl, rfl, rfl⟩⟩
          refine WL.load (v := .slice nao nl.length ncap) Try.isAgg23 rfl ?_ rfl ?_
          ·
            first
              | (have h36' : (kk : Int) + 1 < (sn.length : Int) := h36
                 rcases hNx with ⟨x1, hx1, rfl, rfl, rfl⟩ | ⟨hx1, _⟩
                 ·
                   exact hX.snaps.rsl.cellsAt hx1 1 _ rfl
                 ·
                   exact absurd hx1 (by rw [List.getElem?_eq_getElem (by omega)]; simp))
              | (have h36' : (sn.length : Int) ≤ (kk : Int) + 1 := h36
                 rcases hNx with ⟨x1, hx1, rfl, rfl, rfl⟩ | ⟨hx1, rfl, rfl, rfl⟩
                 ·
                   have := (List.getElem?_eq_some_iff.1 hx1).1
                   omega
                 ·
                   exact hb4.cell rfl)
          refine WL.len Try.underlying23 rfl rfl (WL.move rfl rfl (WL.nil (WX.then_normal (WC.block (?_)))))
          obtain ⟨ah, hah⟩ : ∃ ah, ah = l.abs.ahead kk := ⟨_, rfl⟩
          have hSt' := (Row.neB hX.snaps hSt).mono (S' := fun b => w.heap.size ≤ b ∧ b ≠ g_1 ∧ b ≠ g_2 ∧ b ≠ gs) (fun b hb => ⟨hb.1.1, hb.1.2.1, hb.1.2.2, hb.2⟩)
          have hnl : nl.length ≤ 1700000000000 := by
            rcases hNx with ⟨x1, hx1, rfl, rfl, rfl⟩ | ⟨hx1, rfl, rfl, rfl⟩
            ·
              exact hzs x1 (List.mem_of_getElem? hx1)
            ·
              rw [hld]; exact hz.1
          first
            | refine WC.loop (σ := Nat × (Option Addr × Nat × List PtV) × (Option Addr × Nat × List PtV)) (fun q => [(1, vi (kk : Int)), (2, gptr g_1), (4, gptr g_2), (7, .pointer (some ⟨gs, 0 + (kk + 1) * 2 + 1, none⟩)), (8, .slice q.2.1.1 q.2.1.2.2.length q.2.1.2.1), (9, .slice q.2.2.1 q.2.2.2.2.length q.2.2.2.1), (51, .slice nao nl.length ncap), (52, vi nl.length), (53, vi (q.1 : Int))]) (fun q w' => q.1 ≤ nl.length ∧ Blk w' g_1 33 (lcells ⟨ba, some ⟨gs, 0, none⟩, sc, sn, da, dc, de⟩) ∧ Blk w' g_2 33 (lcells ⟨0, none, 0, [], none, 0, []⟩) ∧ Chg Nob w w' ∧ RX (fun b => (w.heap.size ≤ b ∧ b ≠ g_1 ∧ b ≠ g_2) ∧ ¬ Eqb q.2.1.1 b ∧ ¬ Eqb q.2.2.1 b) w' 65 kk ⟨ba, some ⟨gs, 0, none⟩, sc, sn, da, dc, de⟩ ∧ Row (fun b => w.heap.size ≤ b ∧ b ≠ g_1 ∧ b ≠ g_2 ∧ b ≠ gs) w' 27 ept q.2.1.1 q.2.1.2.1 q.2.1.2.2 ∧ Row (fun b => w.heap.size ≤ b ∧ b ≠ g_1 ∧ b ≠ g_2 ∧ b ≠ gs) w' 27 ept q.2.2.1 q.2.2.2.1 q.2.2.2.2 ∧ Ap q.2.1.1 q.2.2.1 ∧ q.2.1.2.2 = x0.dead ++ (nl.take q.1).filter (fun p => !decide (ah < p.b)) ∧ q.2.2.2.2 = (nl.take q.1).filter (fun p => decide (ah < p.b))) (fun q => nl.length - q.1) (0, (x0.ao, x0.cap, x0.dead), (none, 0, [])) ⟨rfl, rfl, rfl, rfl, rfl, rfl, rfl, rfl, rfl, trivial⟩ ⟨Nat.zero_le _, hb4, hb_2, hw, hX, hSt', Row.nil _ _ _ _, Ap.none _, by simp, by simp⟩ ?_
            | refine WC.loop (σ := Nat × (Option Addr × Nat × List PtV) × (Option Addr × Nat × List PtV)) (fun q => [(1, vi (kk : Int)), (2, gptr g_1), (4, gptr g_2), (7, .pointer (some ⟨g_1, 0 + 2, none⟩)), (8, .slice q.2.1.1 q.2.1.2.2.length q.2.1.2.1), (9, .slice q.2.2.1 q.2.2.2.2.length q.2.2.2.1), (51, .slice nao nl.length ncap), (52, vi nl.length), (53, vi (q.1 : Int))]) (fun q w' => q.1 ≤ nl.length ∧ Blk w' g_1 33 (lcells ⟨ba, some ⟨gs, 0, none⟩, sc, sn, da, dc, de⟩) ∧ Blk w' g_2 33 (lcells ⟨0, none, 0, [], none, 0, []⟩) ∧ Chg Nob w w' ∧ RX (fun b => (w.heap.size ≤ b ∧ b ≠ g_1 ∧ b ≠ g_2) ∧ ¬ Eqb q.2.1.1 b ∧ ¬ Eqb q.2.2.1 b) w' 65 kk ⟨ba, some ⟨gs, 0, none⟩, sc, sn, da, dc, de⟩ ∧ Row (fun b => w.heap.size ≤ b ∧ b ≠ g_1 ∧ b ≠ g_2 ∧ b ≠ gs) w' 27 ept q.2.1.1 q.2.1.2.1 q.2.1.2.2 ∧ Row (fun b => w.heap.size ≤ b ∧ b ≠ g_1 ∧ b ≠ g_2 ∧ b ≠ gs) w' 27 ept q.2.2.1 q.2.2.2.1 q.2.2.2.2 ∧ Ap q.2.1.1 q.2.2.1 ∧ q.2.1.2.2 = x0.dead ++ (nl.take q.1).filter (fun p => !decide (ah < p.b)) ∧ q.2.2.2.2 = (nl.take q.1).filter (fun p => decide (ah < p.b))) (fun q => nl.length - q.1) (0, (x0.ao, x0.cap, x0.dead), (none, 0, [])) ⟨rfl, rfl, rfl, rfl, rfl, rfl, rfl, rfl, rfl, trivial⟩ ⟨Nat.zero_le _, hb4, hb_2, hw, hX, hSt', Row.nil _ _ _ _, Ap.none _, by simp, by simp⟩ ?_
          all_goals skip
          clear hb4 hb_2 hw hX hSt hSt'
          rintro ⟨i, ⟨sao, sc2, st⟩, ⟨fao, fc, fr⟩⟩ w1 ⟨hi, hb4, hb2, hw, hX, hSt, hFr, hAp, hst, hfr⟩
          simp only at hi hX hSt hFr hAp hst hfr
          dsimp only
          have lg1 := hb4.lt
          have lg2 := hb2.lt
          have lgs : gs < w1.heap.size := hX.snaps.own.lt _ rfl
          have hstl : st.length ≤ 3400000000000 := by
            rw [hst, List.length_append]
            have h1 := List.length_filter_le (fun p : PtV => !decide (ah < p.b)) (nl.take i)
            have h2 := List.length_take_le i nl
            omega
          have hfrl : fr.length ≤ 1700000000000 := by
            rw [hfr]
            have h1 := List.length_filter_le (fun p : PtV => decide (ah < p.b)) (nl.take i)
            have h2 := List.length_take_le i nl
            omega
          refine WC.seq (WC.region (?_))
          refine WL.lss? rfl rfl rfl (fun h54 => ?_) (fun h54 => ?_)
          ·
            refine WL.nil (WX.then_normal (WC.seq (WC.cond_true rfl (WC.skip (WX.then_normal (WC.seq (WC.block (?_))))))))
            refine WC.seq (WC.region (?_))
            obtain ⟨p, hp⟩ : ∃ p, nl[i]? = some p := ⟨_, List.getElem?_eq_getElem (by omega)⟩
            have hN := hX.nxt hNx
            refine WL.indexT (e := ept) Try.underlying23 Try.sizeOf27 hN rfl rfl ⟨hp, rfl⟩ rfl ?_
            intro bb oo hcc
            refine WL.loads _ Try.isAgg27 Try.sizeOf27 rfl hcc rfl rfl (?_)
            replace hX := hX.lt
            replace hSt := hSt.lt
            replace hFr := hFr.lt
            refine WL.alloc Try.zeroValue27 rfl ?_
            intro gp wp hgep hltp hbp kp
            have zs_kp := kp.size
            replace hb4 := hb4.pure kp
            replace hb2 := hb2.pure kp
            replace hw := hw.pure kp
            replace hX := hX.pure kp
            replace hSt := hSt.pure kp
            replace hFr := hFr.pure kp
            refine WL.stores Try.sizeOf27 hbp rfl rfl (by first | (simp; done) | (simp; omega) | rfl) (by first | exact Enc.one _ _ | (intro u hu; obtain ⟨x, _, rfl⟩ := List.mem_map.1 hu; rfl) | (simp [Value.oneCell']; done) | (simp [Value.oneCell', Value.cells]; done)) (by first | (simp; done) | (simp; omega) | (simp [Value.cells]; done) | (simp [Value.cells]; omega) | exact Nat.le_of_ble_eq_true rfl) rfl ?_
            intro w_4 hs_4 hn_4 k_4
            have zs_k_4 := k_4.size
            replace hb4 := hb4.chg k_4 (by first | (intro x h1 h2; have h3 : _ = _ := h2; exfalso; omega) | (intro b h1 h2 h3; have h4 : _ = _ := h3; (try dsimp only at h2); exfalso; omega) | (intro h1; have h2 : _ = _ := h1; exfalso; omega) | (intros; exfalso; (try dsimp only at *); omega) | (intro h1; exfalso; have h4 := h1.2; (try dsimp only at *); omega))
            replace hb2 := hb2.chg k_4 (by first | (intro x h1 h2; have h3 : _ = _ := h2; exfalso; omega) | (intro b h1 h2 h3; have h4 : _ = _ := h3; (try dsimp only at h2); exfalso; omega) | (intro h1; have h2 : _ = _ := h1; exfalso; omega) | (intros; exfalso; (try dsimp only at *); omega) | (intro h1; exfalso; have h4 := h1.2; (try dsimp only at *); omega))
            replace hw := hw.chg k_4 (by first | (intro x h1 h2; have h3 : _ = _ := h2; exfalso; omega) | (intro b h1 h2 h3; have h4 : _ = _ := h3; (try dsimp only at h2); exfalso; omega) | (intro h1; have h2 : _ = _ := h1; exfalso; omega) | (intros; exfalso; (try dsimp only at *); omega) | (intro h1; exfalso; have h4 := h1.2; (try dsimp only at *); omega))
            replace hX := hX.chg k_4 (by first | (intro x h1 h2; have h3 : _ = _ := h2; exfalso; omega) | (intro b h1 h2 h3; have h4 : _ = _ := h3; (try dsimp only at h2); exfalso; omega) | (intro h1; have h2 : _ = _ := h1; exfalso; omega) | (intros; exfalso; (try dsimp only at *); omega) | (intro h1; exfalso; have h4 := h1.2; (try dsimp only at *); omega))
            replace hSt := hSt.chg k_4 (by first | (intro x h1 h2; have h3 : _ = _ := h2; exfalso; omega) | (intro b h1 h2 h3; have h4 : _ = _ := h3; (try dsimp only at h2); exfalso; omega) | (intro h1; have h2 : _ = _ := h1; exfalso; omega) | (intros; exfalso; (try dsimp only at *); omega) | (intro h1; exfalso; have h4 := h1.2; (try dsimp only at *); omega))
            replace hFr := hFr.chg k_4 (by first | (intro x h1 h2; have h3 : _ = _ := h2; exfalso; omega) | (intro b h1 h2 h3; have h4 : _ = _ := h3; (try dsimp only at h2); exfalso; omega) | (intro h1; have h2 : _ = _ := h1; exfalso; omega) | (intros; exfalso; (try dsimp only at *); omega) | (intro h1; exfalso; have h4 := h1.2; (try dsimp only at *); omega))
            replace hbp := hn_4
            refine WL.nil (WX.then_normal (WC.seq (?_)))
            have hb8 : Blk _ gp 27 (ept.f p) := hbp
            replace hX := RX.mono (S' := fun b => (w.heap.size ≤ b ∧ b ≠ g_1 ∧ b ≠ g_2) ∧ ¬ Eqb sao b ∧ ¬ Eqb fao b) hX (fun b hb => hb.1)
            replace hSt := Row.mono (S' := fun b => w.heap.size ≤ b ∧ b ≠ g_1 ∧ b ≠ g_2 ∧ b ≠ gs) hSt (fun b hb => hb.1)
            replace hFr := Row.mono (S' := fun b => w.heap.size ≤ b ∧ b ≠ g_1 ∧ b ≠ g_2 ∧ b ≠ gs) hFr (fun b hb => hb.1)
            refine WC.draw (Nob) [0, 1, 2, 3, 4, 5] [] mixed rfl rfl (fun wd_5 kd_5 zd_5 => ?_)
            have zs_kd_5 := kd_5.size
            replace hb4 := hb4.pure kd_5
            replace hb2 := hb2.pure kd_5
            replace hw := hw.pure kd_5
            replace hX := hX.pure kd_5
            replace hSt := hSt.pure kd_5
            replace hFr := hFr.pure kd_5
            replace hb8 := hb8.pure kd_5
            apply DQ.step (E' := [(11, _)])
            case ho => rfl
            case hs => exact ⟨rfl, trivial⟩
            case hk => rfl
            case h1 =>
              intro wq_6 kq_6
              refine WL.fieldAddr (fld_27_2) rfl rfl (?_)
              refine WL.nil ?_
              exact WX.one ⟨rfl, by first | exact Chg.refl _ _ | assumption⟩
            apply DQ.step (E' := [(57, _)])
            case ho => rfl
            case hs => exact ⟨rfl, trivial⟩
            case hk => rfl
            case h1 =>
              intro wq_7 kq_7
              have zs_kq_7 := kq_7.size
              replace hb4 := hb4.pure kq_7
              replace hb2 := hb2.pure kq_7
              replace hw := hw.pure kq_7
              replace hX := hX.pure kq_7
              replace hSt := hSt.pure kq_7
              replace hFr := hFr.pure kq_7
              replace hb8 := hb8.pure kq_7
              refine WL.loadB Try.isAgg3 hb8 rfl rfl rfl (?_)
              refine WL.nil ?_
              exact WX.one ⟨rfl, by first | exact Chg.refl _ _ | assumption⟩
            apply DQ.step (E' := [(2, _)])
            case ho => rfl
            case hs => exact ⟨rfl, trivial⟩
            case hk => rfl
            case h1 =>
              intro wq_8 kq_8
              have zs_kq_8 := kq_8.size
              replace hb4 := hb4.pure kq_8
              replace hb2 := hb2.pure kq_8
              replace hw := hw.pure kq_8
              replace hX := hX.pure kq_8
              replace hSt := hSt.pure kq_8
              replace hFr := hFr.pure kq_8
              replace hb8 := hb8.pure kq_8
              refine WL.loadsB Try.isAgg33 Try.sizeOf33 hb4 rfl (by first | (simp; done) | (simp; omega) | rfl) rfl (?_)
              refine WL.nil ?_
              exact WX.one ⟨rfl, by first | exact Chg.refl _ _ | assumption⟩
            apply DQ.step (E' := [(1, _)])
            case ho => rfl
            case hs => exact ⟨rfl, trivial⟩
            case hk => rfl
            case h1 =>
              intro wq_9 kq_9
              refine WL.move rfl rfl (?_)
              refine WL.nil ?_
              exact WX.one ⟨rfl, by first | exact Chg.refl _ _ | assumption⟩
            apply DQ.step (E' := [(59, _), (60, _)])
            case ho => rfl
            case hs => exact ⟨rfl, rfl, trivial⟩
            case hk => rfl
            case h1 =>
              intro wq_10 kq_10
              have zs_kq_10 := kq_10.size
              replace hb4 := hb4.pure kq_10
              replace hb2 := hb2.pure kq_10
              replace hw := hw.pure kq_10
              replace hX := hX.pure kq_10
              replace hSt := hSt.pure kq_10
              replace hFr := hFr.pure kq_10
              replace hb8 := hb8.pure kq_10
              refine WL.call eg_26 rfl rfl (ahead_calls (l := ⟨ba, some ⟨gs, 0, none⟩, sc, sn, da, dc, de⟩) hX.snaps.rsl (by show sn.length ≤ _; omega) kk (by show kk ≤ sn.length; omega)) ?_
              rintro v w4 ⟨rfl, k4⟩
              rw [show (LnV.abs ⟨ba, some ⟨gs, 0, none⟩, sc, sn, da, dc, de⟩).ahead kk = ah from by rw [ha, hah]]
              have zs_k4 := k4.size
              replace hb4 := hb4.pure k4
              replace hb2 := hb2.pure k4
              replace hw := hw.pure k4
              replace hX := hX.pure k4
              replace hSt := hSt.pure k4
              replace hFr := hFr.pure k4
              replace hb8 := hb8.pure k4
              refine WL.nil ?_
              exact WX.one ⟨rfl, by first | exact Chg.refl _ _ | assumption⟩
            apply DQ.split (E' := [(58, _), (61, _)])
            case ho => rfl
            case hs => exact ⟨rfl, rfl, trivial⟩
            case hk => rfl
            case h1 =>
              intro wq_11 kq_11
              refine WL.gtr rfl rfl rfl ?_
              refine WL.nil ?_
              exact WX.one ⟨rfl, by first | exact Chg.refl _ _ | assumption⟩
            case ht =>
              intro h62
              replace h62 := of_decide_eq_true h62
              refine DQ.done (fun _ => ?_)
              refine DL.done (fun we_12 ke_12 => ?_)
              have zs_ke_12 := ke_12.size
              replace hb4 := hb4.pure ke_12
              replace hb2 := hb2.pure ke_12
              replace hw := hw.pure ke_12
              replace hX := hX.pure ke_12
              replace hSt := hSt.pure ke_12
              replace hFr := hFr.pure ke_12
              replace hb8 := hb8.pure ke_12
              refine WX.then_normal (WC.cond_true rfl (WC.region (WL.move rfl rfl (WL.loadsB Try.isAgg27 Try.sizeOf27 hb8 rfl (by first | (simp; done) | (simp; omega) | rfl) rfl (?_)))))
              refine WL.build (e := ept) [p] Try.underlying23 Try.sizeOf27 Try.zeroValue27 rfl rfl rfl (by first | (simp [Value.cells]; done) | (simp [Value.cells] <;> rfl) | (simp [Value.cells, eb, ei, es, ebool, e32, e64]; done)) (by decide) rfl ?_
              intro a_hq w_hq hq l_hq z_hq k_hq
              have zs_k_hq := k_hq.size
              replace hb4 := hb4.pure k_hq
              replace hb2 := hb2.pure k_hq
              replace hw := hw.pure k_hq
              replace hX := hX.pure k_hq
              replace hSt := hSt.pure k_hq
              replace hFr := hFr.pure k_hq
              replace hb8 := hb8.pure k_hq
              refine WL.append (e := ept) info_27 rfl Try.underlying23 rfl rfl hFr (hq.rsl.src Try.underlying23) (by constructor <;> (simp only [List.length_cons, List.length_nil]; omega)) (fun x hx => by omega) rfl ?_
              intro ao9 c9 w9 hb9 gg9 n9
              have hX9 := hX.grow gg9
              have hSt9 := Row.other hSt hAp gg9
              have hAp9 := hAp.grow hSt.own.lt gg9
              have gk : Chg (fun x => w.heap.size ≤ x ∧ x ≠ g_1 ∧ x ≠ g_2 ∧ x ≠ gs) _ w9 := gg9.chg.mono (fun x _ hx => hx.2)
              have zs_gk := gk.size
              replace hb4 := hb4.chg gk (by first | (intro x h1 h2; have h3 : _ = _ := h2; exfalso; omega) | (intro b h1 h2 h3; have h4 : _ = _ := h3; (try dsimp only at h2); exfalso; omega) | (intro h1; have h2 : _ = _ := h1; exfalso; omega) | (intros; exfalso; (try dsimp only at *); omega) | (intro h1; exfalso; have h4 := h1.2; (try dsimp only at *); omega))
              replace hb2 := hb2.chg gk (by first | (intro x h1 h2; have h3 : _ = _ := h2; exfalso; omega) | (intro b h1 h2 h3; have h4 : _ = _ := h3; (try dsimp only at h2); exfalso; omega) | (intro h1; have h2 : _ = _ := h1; exfalso; omega) | (intros; exfalso; (try dsimp only at *); omega) | (intro h1; exfalso; have h4 := h1.2; (try dsimp only at *); omega))
              replace hw := hw.chg gk (by first | (intro x h1 h2; have h3 : _ = _ := h2; exfalso; omega) | (intro b h1 h2 h3; have h4 : _ = _ := h3; (try dsimp only at h2); exfalso; omega) | (intro h1; have h2 : _ = _ := h1; exfalso; omega) | (intros; exfalso; (try dsimp only at *); omega) | (intro h1; exfalso; have h4 := h1.2; (try dsimp only at *); omega))
              refine WL.assign rfl rfl (WL.nil (WX.block_normal (WX.then_normal (WC.region (WL.add64 rfl rfl (by first | omega | (constructor <;> omega)) rfl (WL.move rfl rfl (WL.nil (?_))))))))
              have htk : nl.take (i + 1) = nl.take i ++ [p] := by rw [List.take_add_one, hp]; rfl
              first
                | (have hh : ah < p.b := h62
                   exact WX.loop_next (i + 1, (sao, sc2, st), (ao9, c9, fr ++ [p])) ⟨rfl, rfl, rfl, rfl, rfl, rfl, rfl, rfl, rfl, trivial⟩ ⟨by show i + 1 ≤ _; omega, hb4, hb2, hw, hX9, hSt9, hb9, hAp9, by rw [htk, List.filter_append, hst]; simp [hh], by rw [htk, List.filter_append, hfr]; simp [hh]⟩ (by show nl.length - (i + 1) < nl.length - i; omega))
                | (have hh : ¬ ah < p.b := h62
                   exact WX.loop_next (i + 1, (ao9, c9, st ++ [p]), (fao, fc, fr)) ⟨rfl, rfl, rfl, rfl, rfl, rfl, rfl, rfl, rfl, trivial⟩ ⟨by show i + 1 ≤ _; omega, hb4, hb2, hw, hX9, hb9, hFr9, hAp9, by rw [htk, List.filter_append, hst]; simp [hh], by rw [htk, List.filter_append, hfr]; simp [hh]⟩ (by show nl.length - (i + 1) < nl.length - i; omega))
            case hf =>
              intro h62
              replace h62 := of_decide_eq_false h62
              refine DQ.done (fun _ => ?_)
              refine DL.done (fun we_12 ke_12 => ?_)
              have zs_ke_12 := ke_12.size
              replace hb4 := hb4.pure ke_12
              replace hb2 := hb2.pure ke_12
              replace hw := hw.pure ke_12
              replace hX := hX.pure ke_12
              replace hSt := hSt.pure ke_12
              replace hFr := hFr.pure ke_12
              replace hb8 := hb8.pure ke_12
              refine WX.then_normal (WC.cond_false rfl (WC.region (WL.move rfl rfl (WL.loadsB Try.isAgg27 Try.sizeOf27 hb8 rfl (by first | (simp; done) | (simp; omega) | rfl) rfl (?_)))))
              refine WL.build (e := ept) [p] Try.underlying23 Try.sizeOf27 Try.zeroValue27 rfl rfl rfl (by first | (simp [Value.cells]; done) | (simp [Value.cells] <;> rfl) | (simp [Value.cells, eb, ei, es, ebool, e32, e64]; done)) (by decide) rfl ?_
              intro a_hq w_hq hq l_hq z_hq k_hq
              have zs_k_hq := k_hq.size
              replace hb4 := hb4.pure k_hq
              replace hb2 := hb2.pure k_hq
              replace hw := hw.pure k_hq
              replace hX := hX.pure k_hq
              replace hSt := hSt.pure k_hq
              replace hFr := hFr.pure k_hq
              replace hb8 := hb8.pure k_hq
              refine WL.append (e := ept) info_27 rfl Try.underlying23 rfl rfl hSt (hq.rsl.src Try.underlying23) (by constructor <;> (simp only [List.length_cons, List.length_nil]; omega)) (fun x hx => by omega) rfl ?_
              intro ao9 c9 w9 hb9 gg9 n9
              have hX9 := (hX.swap.grow gg9).swap
              have hFr9 := Row.other hFr hAp.symm gg9
              have hAp9 := (hAp.symm.grow hFr.own.lt gg9).symm
              have gk : Chg (fun x => w.heap.size ≤ x ∧ x ≠ g_1 ∧ x ≠ g_2 ∧ x ≠ gs) _ w9 := gg9.chg.mono (fun x _ hx => hx.2)
              have zs_gk := gk.size
              replace hb4 := hb4.chg gk (by first | (intro x h1 h2; have h3 : _ = _ := h2; exfalso; omega) | (intro b h1 h2 h3; have h4 : _ = _ := h3; (try dsimp only at h2); exfalso; omega) | (intro h1; have h2 : _ = _ := h1; exfalso; omega) | (intros; exfalso; (try dsimp only at *); omega) | (intro h1; exfalso; have h4 := h1.2; (try dsimp only at *); omega))
              replace hb2 := hb2.chg gk (by first | (intro x h1 h2; have h3 : _ = _ := h2; exfalso; omega) | (intro b h1 h2 h3; have h4 : _ = _ := h3; (try dsimp only at h2); exfalso; omega) | (intro h1; have h2 : _ = _ := h1; exfalso; omega) | (intros; exfalso; (try dsimp only at *); omega) | (intro h1; exfalso; have h4 := h1.2; (try dsimp only at *); omega))
              replace hw := hw.chg gk (by first | (intro x h1 h2; have h3 : _ = _ := h2; exfalso; omega) | (intro b h1 h2 h3; have h4 : _ = _ := h3; (try dsimp only at h2); exfalso; omega) | (intro h1; have h2 : _ = _ := h1; exfalso; omega) | (intros; exfalso; (try dsimp only at *); omega) | (intro h1; exfalso; have h4 := h1.2; (try dsimp only at *); omega))
              refine WL.assign rfl rfl (WL.nil (WX.block_normal (WX.then_normal (WC.region (WL.add64 rfl rfl (by first | omega | (constructor <;> omega)) rfl (WL.move rfl rfl (WL.nil (?_))))))))
              have htk : nl.take (i + 1) = nl.take i ++ [p] := by rw [List.take_add_one, hp]; rfl
              first
                | (have hh : ah < p.b := h62
                   exact WX.loop_next (i + 1, (sao, sc2, st), (ao9, c9, fr ++ [p])) ⟨rfl, rfl, rfl, rfl, rfl, rfl, rfl, rfl, rfl, trivial⟩ ⟨by show i + 1 ≤ _; omega, hb4, hb2, hw, hX9, hSt9, hb9, hAp9, by rw [htk, List.filter_append, hst]; simp [hh], by rw [htk, List.filter_append, hfr]; simp [hh]⟩ (by show nl.length - (i + 1) < nl.length - i; omega))
                | (have hh : ¬ ah < p.b := h62
                   exact WX.loop_next (i + 1, (ao9, c9, st ++ [p]), (fao, fc, fr)) ⟨rfl, rfl, rfl, rfl, rfl, rfl, rfl, rfl, rfl, trivial⟩ ⟨by show i + 1 ≤ _; omega, hb4, hb2, hw, hX9, hb9, hFr9, hAp9, by rw [htk, List.filter_append, hst]; simp [hh], by rw [htk, List.filter_append, hfr]; simp [hh]⟩ (by show nl.length - (i + 1) < nl.length - i; omega))
          ·
            refine WL.nil (WX.then_normal (WC.seq (WC.cond_false rfl (WC.exit (WX.then_exit (WX.then_exit (WX.block_here (?_))))))))
            refine WX.then_normal (WC.seq (WC.region (WL.move rfl rfl (WL.move rfl rfl (WL.nilCheck rfl rfl (?_))))))
            have hti : nl.take i = nl := List.take_of_length_le (by omega)
            rw [hti] at hst hfr
            have hXS := hX.mono (S' := fun b => w.heap.size ≤ b ∧ b ≠ g_1 ∧ b ≠ g_2) (fun b hb => hb.1)
            have hStS := hSt.mono (S' := fun b => w.heap.size ≤ b ∧ b ≠ g_1 ∧ b ≠ g_2) (fun b hb => ⟨hb.1, hb.2.1, hb.2.2.1⟩)
            have hgs := hXS.snaps.at_ _ rfl
            have hgs0 : w.heap.size ≤ gs := hgs.1
            have hgs1 : gs ≠ g_1 := hgs.2.1
            have hgs2 : gs ≠ g_2 := hgs.2.2
            have hbs : l.abs.base = ba := (congrArg LA.base ha).symm
            have hds : l.abs.dead = de := (congrArg LA.dead ha).symm
            rw [hah] at hst hfr
            have hfin : ∃ k8 : Unit, True := ⟨(), trivial⟩
            clear hfin
            first
              | (have h36' : (kk : Int) + 1 < (sn.length : Int) := h36
                 obtain ⟨x1, hx1, hn1⟩ : ∃ x1 : SnV, sn[kk + 1]? = some x1 ∧ nl = x1.dead := by
                   rcases hNx with ⟨x1, hx1, _, _, h4⟩ | ⟨hx1, _⟩
                   ·
                     exact ⟨x1, hx1, h4⟩
                   ·
                     exact absurd hx1 (by rw [List.getElem?_eq_getElem (by omega)]; simp)
                 rw [hn1] at hst hfr
                 obtain ⟨hd6, hn6⟩ := dest_A (L := l.abs) hsa.symm hx0 hx1 hst sao sc2
                 rw [hbs, hds] at hd6
                 refine WL.storeF (e := esn) (ys := sn.set (kk + 1) ⟨x1.txg, sao, sc2, st⟩) Try.sizeOf23 hXS.snaps rfl rfl rfl (by show 0 + (kk + 1) * 2 + 1 + 1 ≤ sn.length * 2; omega) (List.length_set ..) (sn_set hx1 ⟨x1.txg, sao, sc2, st⟩ rfl) ?_
                 intro w8 z8 hW8 k8
                 have hX8 := hXS.put (by decide) rfl (y := ⟨x1.txg, sao, sc2, st⟩) hStS hW8 k8
                 have hb48 := hb4.chg k8 (fun e : g_1 = gs => hgs1 e.symm)
                 have hfin : ∃ (sn2 : List SnV) (dao2 : Option Addr) (dcap2 : Nat) (dead2 : List PtV), Blk w8 g_1 33 (lcells ⟨ba, some ⟨gs, 0, none⟩, sc, sn2, dao2, dcap2, dead2⟩) ∧ RX (fun b => w.heap.size ≤ b ∧ b ≠ g_1 ∧ b ≠ g_2) w8 65 kk ⟨ba, some ⟨gs, 0, none⟩, sc, sn2, dao2, dcap2, dead2⟩ ∧ sn2.length = sn.length ∧ LA.mk ba (sabs (sn2.take kk ++ sn2.drop (kk + 1))) dead2 = destroyA l.abs kk ∧ fr = freeA l.abs kk := by
                   refine ⟨sn.set (kk + 1) ⟨x1.txg, sao, sc2, st⟩, da, dc, de, ?_, hX8, List.length_set .., hd6, by rw [freeA, hn6]; exact hfr⟩
                   have h9 : Blk w8 g_1 33 [vi ba, .slice (some ⟨gs, 0, none⟩) sn.length sc, .slice da de.length dc] := hb48
                   rw [show sn.length = (sn.set (kk + 1) ⟨x1.txg, sao, sc2, st⟩).length from (List.length_set ..).symm] at h9
                   exact h9
                 have k9 : Chg (fun b => b = gs ∨ b = g_1) _ w8 := k8.mono (fun _ _ h => .inl h))
              | (have h36' : (sn.length : Int) ≤ (kk : Int) + 1 := h36
                 obtain ⟨hx1, hn1⟩ : sn[kk + 1]? = none ∧ nl = de := by
                   rcases hNx with ⟨x1, hx1, _, _, h4⟩ | ⟨hx1, _, _, h4⟩
                   ·
                     have := (List.getElem?_eq_some_iff.1 hx1).1
                     omega
                   ·
                     exact ⟨hx1, h4⟩
                 rw [hn1, ← hds] at hst hfr
                 obtain ⟨hd6, hn6⟩ := dest_B (L := l.abs) hsa.symm hx0 hx1 hst
                 rw [hbs] at hd6
                 refine WL.store Try.sizeOf23 hb4 rfl rfl rfl rfl ?_
                 intro w8 z8 hn8 k8
                 have hX8 : RX (fun b => w.heap.size ≤ b ∧ b ≠ g_1 ∧ b ≠ g_2) w8 65 kk ⟨ba, some ⟨gs, 0, none⟩, sc, sn, sao, sc2, st⟩ := by
                   have h1 := hXS.chg k8 (fun b _ h2 h3 => h2.2.1 h3)
                   have h2 := hStS.chg k8 (fun b _ h2 h3 => h2.2.1 h3)
                   exact ⟨h1.snaps, h1.rest, h2⟩
                 have hfin : ∃ (sn2 : List SnV) (dao2 : Option Addr) (dcap2 : Nat) (dead2 : List PtV), Blk w8 g_1 33 (lcells ⟨ba, some ⟨gs, 0, none⟩, sc, sn2, dao2, dcap2, dead2⟩) ∧ RX (fun b => w.heap.size ≤ b ∧ b ≠ g_1 ∧ b ≠ g_2) w8 65 kk ⟨ba, some ⟨gs, 0, none⟩, sc, sn2, dao2, dcap2, dead2⟩ ∧ sn2.length = sn.length ∧ LA.mk ba (sabs (sn2.take kk ++ sn2.drop (kk + 1))) dead2 = destroyA l.abs kk ∧ fr = freeA l.abs kk :=
                   ⟨sn, sao, sc2, st, hn8, hX8, rfl, hd6, by rw [freeA, hn6]; exact hfr⟩
                 have k9 : Chg (fun b => b = gs ∨ b = g_1) _ w8 := k8.mono (fun _ _ h => .inr h))
            obtain ⟨sn2, dao2, dcap2, dead2, hb6, hX6, hl6, hd6, hf6⟩ := hfin
            have zk9 := k9.size
            replace hb2 := hb2.chg k9 (by rintro (h | h) <;> omega)
            replace hw := hw.chg k9 (by intro x h1 h2; exfalso; rcases h2 with h | h <;> omega)
            replace hFr := hFr.chg k9 (by intro b h1 h2 h3; rcases h3 with h | h <;> omega)
            refine WL.nil (WX.then_normal (WC.seq (WC.region (WL.fieldAddr (fld_33_1) rfl rfl (WL.loadB Try.isAgg31 hb6 rfl rfl rfl (WL.move rfl rfl (WL.move rfl rfl (?_))))))))
            refine WL.add64 rfl rfl (by first | omega | (constructor <;> omega)) rfl (?_)
            refine WL.call eg_31 rfl rfl (sdelete_calls hX6.snaps kk (by show kk < sn2.length; omega) (by show sn2.length ≤ _; omega)) ?_
            rintro v w9 ⟨rfl, hW9, k10⟩
            have hL := hX6.delW rfl hW9 k10
            have zs_k10 := k10.size
            replace hb2 := hb2.chg k10 (by first | (intro x h1 h2; have h3 : _ = _ := h2; exfalso; omega) | (intro b h1 h2 h3; have h4 : _ = _ := h3; (try dsimp only at h2); exfalso; omega) | (intro h1; have h2 : _ = _ := h1; exfalso; omega) | (intros; exfalso; (try dsimp only at *); omega) | (intro h1; exfalso; have h4 := h1.2; (try dsimp only at *); omega))
            replace hw := hw.chg k10 (by first | (intro x h1 h2; have h3 : _ = _ := h2; exfalso; omega) | (intro b h1 h2 h3; have h4 : _ = _ := h3; (try dsimp only at h2); exfalso; omega) | (intro h1; have h2 : _ = _ := h1; exfalso; omega) | (intros; exfalso; (try dsimp only at *); omega) | (intro h1; exfalso; have h4 := h1.2; (try dsimp only at *); omega))
            replace hFr := hFr.chg k10 (by first | (intro x h1 h2; have h3 : _ = _ := h2; exfalso; omega) | (intro b h1 h2 h3; have h4 : _ = _ := h3; (try dsimp only at h2); exfalso; omega) | (intro h1; have h2 : _ = _ := h1; exfalso; omega) | (intros; exfalso; (try dsimp only at *); omega) | (intro h1; exfalso; have h4 := h1.2; (try dsimp only at *); omega))
            replace hb6 := hb6.chg k10 (by first | (intro x h1 h2; have h3 : _ = _ := h2; exfalso; omega) | (intro b h1 h2 h3; have h4 : _ = _ := h3; (try dsimp only at h2); exfalso; omega) | (intro h1; have h2 : _ = _ := h1; exfalso; omega) | (intros; exfalso; (try dsimp only at *); omega) | (intro h1; exfalso; have h4 := h1.2; (try dsimp only at *); omega))
            refine WL.fieldAddr (fld_33_1) rfl rfl (?_)
            refine WL.store Try.sizeOf31 hb6 rfl rfl rfl rfl ?_
            intro w_4 hs_4 hn_4 k_4
            have zs_k_4 := k_4.size
            replace hb2 := hb2.chg k_4 (by first | (intro x h1 h2; have h3 : _ = _ := h2; exfalso; omega) | (intro b h1 h2 h3; have h4 : _ = _ := h3; (try dsimp only at h2); exfalso; omega) | (intro h1; have h2 : _ = _ := h1; exfalso; omega) | (intros; exfalso; (try dsimp only at *); omega) | (intro h1; exfalso; have h4 := h1.2; (try dsimp only at *); omega))
            replace hw := hw.chg k_4 (by first | (intro x h1 h2; have h3 : _ = _ := h2; exfalso; omega) | (intro b h1 h2 h3; have h4 : _ = _ := h3; (try dsimp only at h2); exfalso; omega) | (intro h1; have h2 : _ = _ := h1; exfalso; omega) | (intros; exfalso; (try dsimp only at *); omega) | (intro h1; exfalso; have h4 := h1.2; (try dsimp only at *); omega))
            replace hFr := hFr.chg k_4 (by first | (intro x h1 h2; have h3 : _ = _ := h2; exfalso; omega) | (intro b h1 h2 h3; have h4 : _ = _ := h3; (try dsimp only at h2); exfalso; omega) | (intro h1; have h2 : _ = _ := h1; exfalso; omega) | (intros; exfalso; (try dsimp only at *); omega) | (intro h1; exfalso; have h4 := h1.2; (try dsimp only at *); omega))
            replace hL := hL.chg k_4 (by first | (intro x h1 h2; have h3 : _ = _ := h2; exfalso; omega) | (intro b h1 h2 h3; have h4 : _ = _ := h3; (try dsimp only at h2); exfalso; omega) | (intro h1; have h2 : _ = _ := h1; exfalso; omega) | (intros; exfalso; (try dsimp only at *); omega) | (intro h1; exfalso; have h4 := h1.2; (try dsimp only at *); omega))
            replace hb6 := hn_4
            refine WL.nil (WX.then_normal (WC.seq (WC.region (WL.loadsB Try.isAgg33 Try.sizeOf33 hb6 rfl (by first | (simp; done) | (simp; omega) | rfl) rfl (WL.move rfl rfl (?_))))))
            refine WL.stores Try.sizeOf33 hb2 rfl rfl (by first | (simp; done) | (simp; omega) | rfl) (by first | exact Enc.one _ _ | (intro u hu; obtain ⟨x, _, rfl⟩ := List.mem_map.1 hu; rfl) | (simp [Value.oneCell']; done) | (simp [Value.oneCell', Value.cells]; done)) (by first | (simp; done) | (simp; omega) | (simp [Value.cells]; done) | (simp [Value.cells]; omega) | exact Nat.le_of_ble_eq_true rfl) rfl ?_
            intro w_5 hs_5 hn_5 k_5
            have zs_k_5 := k_5.size
            replace hw := hw.chg k_5 (by first | (intro x h1 h2; have h3 : _ = _ := h2; exfalso; omega) | (intro b h1 h2 h3; have h4 : _ = _ := h3; (try dsimp only at h2); exfalso; omega) | (intro h1; have h2 : _ = _ := h1; exfalso; omega) | (intros; exfalso; (try dsimp only at *); omega) | (intro h1; exfalso; have h4 := h1.2; (try dsimp only at *); omega))
            replace hFr := hFr.chg k_5 (by first | (intro x h1 h2; have h3 : _ = _ := h2; exfalso; omega) | (intro b h1 h2 h3; have h4 : _ = _ := h3; (try dsimp only at h2); exfalso; omega) | (intro h1; have h2 : _ = _ := h1; exfalso; omega) | (intros; exfalso; (try dsimp only at *); omega) | (intro h1; exfalso; have h4 := h1.2; (try dsimp only at *); omega))
            replace hb6 := hb6.chg k_5 (by first | (intro x h1 h2; have h3 : _ = _ := h2; exfalso; omega) | (intro b h1 h2 h3; have h4 : _ = _ := h3; (try dsimp only at h2); exfalso; omega) | (intro h1; have h2 : _ = _ := h1; exfalso; omega) | (intros; exfalso; (try dsimp only at *); omega) | (intro h1; exfalso; have h4 := h1.2; (try dsimp only at *); omega))
            replace hL := hL.chg k_5 (by first | (intro x h1 h2; have h3 : _ = _ := h2; exfalso; omega) | (intro b h1 h2 h3; have h4 : _ = _ := h3; (try dsimp only at h2); exfalso; omega) | (intro h1; have h2 : _ = _ := h1; exfalso; omega) | (intros; exfalso; (try dsimp only at *); omega) | (intro h1; exfalso; have h4 := h1.2; (try dsimp only at *); omega))
            replace hb2 := hn_5
            refine WL.assign rfl rfl (WL.assign rfl rfl (WL.nil (WX.then_normal (WC.ret (?_)))))
            refine WX.ret3c (.inl rfl) Try.results19 Try.isAgg33 Try.sizeOf33 hb2 rfl (by first | (simp; done) | (simp; omega) | rfl) rfl rfl ?_
            first
              | (have hh : e ≠ 0 := h15
                 have h2 : e = 2 ∧ ¬ l.abs.Right := by
                   rcases he with ⟨h1, _⟩ | h1
                   ·
                     exact absurd h1 hh
                   ·
                     exact h1
                 exact ⟨_, rfl, ⟨⟨0, none, 0, [], none, 0, []⟩, none, 0, [], 2, rfl, .inl ⟨h2.2, rfl, rfl, rfl⟩, ⟨Row.nil _ _ _ _, Row.nil _ _ _ _, fun x hx => by cases hx⟩, Row.nil _ _ _ _⟩, hw⟩)
              | (have hh : k < 0 ∨ (l.abs.snaps.length : Int) ≤ k := by
                   rw [show l.abs.snaps.length = l.snaps.length from sabs_len _]
                   omega
                 have hR : l.abs.Right := by
                   rcases he with ⟨_, h1⟩ | ⟨h1, _⟩
                   ·
                     exact h1
                   ·
                     omega
                 exact ⟨_, rfl, ⟨⟨0, none, 0, [], none, 0, []⟩, none, 0, [], 1, rfl, .inr (.inl ⟨hR, hh, rfl, rfl, rfl⟩), ⟨Row.nil _ _ _ _, Row.nil _ _ _ _, fun x hx => by cases hx⟩, Row.nil _ _ _ _⟩, hw⟩)
              | (refine ⟨_, rfl, ⟨⟨ba, some ⟨gs, 0, none⟩, sc, sn2.take kk ++ sn2.drop (kk + 1), dao2, dcap2, dead2⟩, fao, fc, fr, 0, rfl, .inr (.inr ⟨hR, ?_, hd6, hf6, rfl⟩), hL.mono (fun x hx => hx.1), hFr.mono (fun x hx => hx.1)⟩, hw⟩
                 rw [show l.abs.snaps.length = l.snaps.length from sabs_len _]
                 omega)
        ·
          refine WL.nil (WX.then_normal (WC.cond_false rfl (WC.skip (WX.then_normal (WC.seq (WC.region (WL.fieldAddr (fld_33_1) rfl rfl (?_))))))))
          refine WL.loadB Try.isAgg31 hb4 rfl rfl rfl (WL.move rfl rfl (?_))
          refine WL.index (j := kk) Try.underlying31 Try.sizeOf65 rfl rfl rfl (by show kk < sn.length; omega) rfl ?_
          refine WL.fieldAddr (fld_65_1) rfl rfl (?_)
          refine WL.load Try.isAgg23 rfl (hX.snaps.rsl.cellsAt hx0 1 _ rfl) rfl ?_
          refine WL.assign rfl rfl (WL.nil (WX.then_normal (WC.seq (WC.region (WL.assign rfl rfl (WL.nil (WX.then_normal (?_))))))))
          refine WC.seq (WC.seq (WC.region (WL.move rfl rfl (WL.nilCheck rfl rfl (?_)))))
          obtain ⟨nao, ncap, nl, hNx⟩ : ∃ (nao : Option Addr) (ncap : Nat) (nl : List PtV), (∃ x1 : SnV, sn[kk + 1]? = some x1 ∧ nao = x1.ao ∧ ncap = x1.cap ∧ nl = x1.dead) ∨ (sn[kk + 1]? = none ∧ nao = da ∧ ncap = dc ∧ nl = de) := by
            cases hq : sn[kk + 1]? with
            | none => exact ⟨da, dc, de, .inr ⟨rfl, rfl, rfl, rfl⟩⟩
            | some x1 => exact ⟨x1.ao, x1.cap, x1.dead, .inl ⟨x1, rfl, rfl, rfl, rfl⟩⟩
          refine WL.load (v := .slice nao nl.length ncap) Try.isAgg23 rfl ?_ rfl ?_
          ·
            first
              | (have h36' : (kk : Int) + 1 < (sn.length : Int) := h36
                 rcases hNx with ⟨x1, hx1, rfl, rfl, rfl⟩ | ⟨hx1, _⟩
                 ·
                   exact hX.snaps.rsl.cellsAt hx1 1 _ rfl
                 ·
                   exact absurd hx1 (by rw [List.getElem?_eq_getElem (by omega)]; simp))
              | (have h36' : (sn.length : Int) ≤ (kk : Int) + 1 := h36
                 rcases hNx with ⟨x1, hx1, rfl, rfl, rfl⟩ | ⟨hx1, rfl, rfl, rfl⟩
                 ·
                   have := (List.getElem?_eq_some_iff.1 hx1).1
                   omega
                 ·
                   exact hb4.cell rfl)
          refine WL.len Try.underlying23 rfl rfl (WL.move rfl rfl (WL.nil (WX.then_normal (WC.block (?_)))))
          obtain ⟨ah, hah⟩ : ∃ ah, ah = l.abs.ahead kk := ⟨_, rfl⟩
          have hSt' := (Row.neB hX.snaps hSt).mono (S' := fun b => w.heap.size ≤ b ∧ b ≠ g_1 ∧ b ≠ g_2 ∧ b ≠ gs) (fun b hb => ⟨hb.1.1, hb.1.2.1, hb.1.2.2, hb.2⟩)
          have hnl : nl.length ≤ 1700000000000 := by
            rcases hNx with ⟨x1, hx1, rfl, rfl, rfl⟩ | ⟨hx1, rfl, rfl, rfl⟩
            ·
              exact hzs x1 (List.mem_of_getElem? hx1)
            ·
              rw [hld]; exact hz.1
          first
            | refine WC.loop (σ := Nat × (Option Addr × Nat × List PtV) × (Option Addr × Nat × List PtV)) (fun q => [(1, vi (kk : Int)), (2, gptr g_1), (4, gptr g_2), (7, .pointer (some ⟨gs, 0 + (kk + 1) * 2 + 1, none⟩)), (8, .slice q.2.1.1 q.2.1.2.2.length q.2.1.2.1), (9, .slice q.2.2.1 q.2.2.2.2.length q.2.2.2.1), (51, .slice nao nl.length ncap), (52, vi nl.length), (53, vi (q.1 : Int))]) (fun q w' => q.1 ≤ nl.length ∧ Blk w' g_1 33 (lcells ⟨ba, some ⟨gs, 0, none⟩, sc, sn, da, dc, de⟩) ∧ Blk w' g_2 33 (lcells ⟨0, none, 0, [], none, 0, []⟩) ∧ Chg Nob w w' ∧ RX (fun b => (w.heap.size ≤ b ∧ b ≠ g_1 ∧ b ≠ g_2) ∧ ¬ Eqb q.2.1.1 b ∧ ¬ Eqb q.2.2.1 b) w' 65 kk ⟨ba, some ⟨gs, 0, none⟩, sc, sn, da, dc, de⟩ ∧ Row (fun b => w.heap.size ≤ b ∧ b ≠ g_1 ∧ b ≠ g_2 ∧ b ≠ gs) w' 27 ept q.2.1.1 q.2.1.2.1 q.2.1.2.2 ∧ Row (fun b => w.heap.size ≤ b ∧ b ≠ g_1 ∧ b ≠ g_2 ∧ b ≠ gs) w' 27 ept q.2.2.1 q.2.2.2.1 q.2.2.2.2 ∧ Ap q.2.1.1 q.2.2.1 ∧ q.2.1.2.2 = x0.dead ++ (nl.take q.1).filter (fun p => !decide (ah < p.b)) ∧ q.2.2.2.2 = (nl.take q.1).filter (fun p => decide (ah < p.b))) (fun q => nl.length - q.1) (0, (x0.ao, x0.cap, x0.dead), (none, 0, [])) ⟨rfl, rfl, rfl, rfl, rfl, rfl, rfl, rfl, rfl, trivial⟩ ⟨Nat.zero_le _, hb4, hb_2, hw, hX, hSt', Row.nil _ _ _ _, Ap.none _, by simp, by simp⟩ ?_
            | refine WC.loop (σ := Nat × (Option Addr × Nat × List PtV) × (Option Addr × Nat × List PtV)) (fun q => [(1, vi (kk : Int)), (2, gptr g_1), (4, gptr g_2), (7, .pointer (some ⟨g_1, 0 + 2, none⟩)), (8, .slice q.2.1.1 q.2.1.2.2.length q.2.1.2.1), (9, .slice q.2.2.1 q.2.2.2.2.length q.2.2.2.1), (51, .slice nao nl.length ncap), (52, vi nl.length), (53, vi (q.1 : Int))]) (fun q w' => q.1 ≤ nl.length ∧ Blk w' g_1 33 (lcells ⟨ba, some ⟨gs, 0, none⟩, sc, sn, da, dc, de⟩) ∧ Blk w' g_2 33 (lcells ⟨0, none, 0, [], none, 0, []⟩) ∧ Chg Nob w w' ∧ RX (fun b => (w.heap.size ≤ b ∧ b ≠ g_1 ∧ b ≠ g_2) ∧ ¬ Eqb q.2.1.1 b ∧ ¬ Eqb q.2.2.1 b) w' 65 kk ⟨ba, some ⟨gs, 0, none⟩, sc, sn, da, dc, de⟩ ∧ Row (fun b => w.heap.size ≤ b ∧ b ≠ g_1 ∧ b ≠ g_2 ∧ b ≠ gs) w' 27 ept q.2.1.1 q.2.1.2.1 q.2.1.2.2 ∧ Row (fun b => w.heap.size ≤ b ∧ b ≠ g_1 ∧ b ≠ g_2 ∧ b ≠ gs) w' 27 ept q.2.2.1 q.2.2.2.1 q.2.2.2.2 ∧ Ap q.2.1.1 q.2.2.1 ∧ q.2.1.2.2 = x0.dead ++ (nl.take q.1).filter (fun p => !decide (ah < p.b)) ∧ q.2.2.2.2 = (nl.take q.1).filter (fun p => decide (ah < p.b))) (fun q => nl.length - q.1) (0, (x0.ao, x0.cap, x0.dead), (none, 0, [])) ⟨rfl, rfl, rfl, rfl, rfl, rfl, rfl, rfl, rfl, trivial⟩ ⟨Nat.zero_le _, hb4, hb_2, hw, hX, hSt', Row.nil _ _ _ _, Ap.none _, by simp, by simp⟩ ?_
          all_goals skip
          clear hb4 hb_2 hw hX hSt hSt'
          rintro ⟨i, ⟨sao, sc2, st⟩, ⟨fao, fc, fr⟩⟩ w1 ⟨hi, hb4, hb2, hw, hX, hSt, hFr, hAp, hst, hfr⟩
          simp only at hi hX hSt hFr hAp hst hfr
          dsimp only
          have lg1 := hb4.lt
          have lg2 := hb2.lt
          have lgs : gs < w1.heap.size := hX.snaps.own.lt _ rfl
          have hstl : st.length ≤ 3400000000000 := by
            rw [hst, List.length_append]
            have h1 := List.length_filter_le (fun p : PtV => !decide (ah < p.b)) (nl.take i)
            have h2 := List.length_take_le i nl
            omega
          have hfrl : fr.length ≤ 1700000000000 := by
            rw [hfr]
            have h1 := List.length_filter_le (fun p : PtV => decide (ah < p.b)) (nl.take i)
            have h2 := List.length_take_le i nl
            omega
          refine WC.seq (WC.region (?_))
          refine WL.lss? rfl rfl rfl (fun h54 => ?_) (fun h54 => ?_)
          ·
            refine WL.nil (WX.then_normal (WC.seq (WC.cond_true rfl (WC.skip (WX.then_normal (WC.seq (WC.block (?_))))))))
            refine WC.seq (WC.region (?_))
            obtain ⟨p, hp⟩ : ∃ p, nl[i]? = some p := ⟨_, List.getElem?_eq_getElem (by omega)⟩
            have hN := hX.nxt hNx
            refine WL.indexT (e := ept) Try.underlying23 Try.sizeOf27 hN rfl rfl ⟨hp, rfl⟩ rfl ?_
            intro bb oo hcc
            refine WL.loads _ Try.isAgg27 Try.sizeOf27 rfl hcc rfl rfl (?_)
            replace hX := hX.lt
            replace hSt := hSt.lt
            replace hFr := hFr.lt
            refine WL.alloc Try.zeroValue27 rfl ?_
            intro gp wp hgep hltp hbp kp
            have zs_kp := kp.size
            replace hb4 := hb4.pure kp
            replace hb2 := hb2.pure kp
            replace hw := hw.pure kp
            replace hX := hX.pure kp
            replace hSt := hSt.pure kp
            replace hFr := hFr.pure kp
            refine WL.stores Try.sizeOf27 hbp rfl rfl (by first | (simp; done) | (simp; omega) | rfl) (by first | exact Enc.one _ _ | (intro u hu; obtain ⟨x, _, rfl⟩ := List.mem_map.1 hu; rfl) | (simp [Value.oneCell']; done) | (simp [Value.oneCell', Value.cells]; done)) (by first | (simp; done) | (simp; omega) | (simp [Value.cells]; done) | (simp [Value.cells]; omega) | exact Nat.le_of_ble_eq_true rfl) rfl ?_
            intro w_4 hs_4 hn_4 k_4
            have zs_k_4 := k_4.size
            replace hb4 := hb4.chg k_4 (by first | (intro x h1 h2; have h3 : _ = _ := h2; exfalso; omega) | (intro b h1 h2 h3; have h4 : _ = _ := h3; (try dsimp only at h2); exfalso; omega) | (intro h1; have h2 : _ = _ := h1; exfalso; omega) | (intros; exfalso; (try dsimp only at *); omega) | (intro h1; exfalso; have h4 := h1.2; (try dsimp only at *); omega))
            replace hb2 := hb2.chg k_4 (by first | (intro x h1 h2; have h3 : _ = _ := h2; exfalso; omega) | (intro b h1 h2 h3; have h4 : _ = _ := h3; (try dsimp only at h2); exfalso; omega) | (intro h1; have h2 : _ = _ := h1; exfalso; omega) | (intros; exfalso; (try dsimp only at *); omega) | (intro h1; exfalso; have h4 := h1.2; (try dsimp only at *); omega))
            replace hw := hw.chg k_4 (by first | (intro x h1 h2; have h3 : _ = _ := h2; exfalso; omega) | (intro b h1 h2 h3; have h4 : _ = _ := h3; (try dsimp only at h2); exfalso; omega) | (intro h1; have h2 : _ = _ := h1; exfalso; omega) | (intros; exfalso; (try dsimp only at *); omega) | (intro h1; exfalso; have h4 := h1.2; (try dsimp only at *); omega))
            replace hX := hX.chg k_4 (by first | (intro x h1 h2; have h3 : _ = _ := h2; exfalso; omega) | (intro b h1 h2 h3; have h4 : _ = _ := h3; (try dsimp only at h2); exfalso; omega) | (intro h1; have h2 : _ = _ := h1; exfalso; omega) | (intros; exfalso; (try dsimp only at *); omega) | (intro h1; exfalso; have h4 := h1.2; (try dsimp only at *); omega))
            replace hSt := hSt.chg k_4 (by first | (intro x h1 h2; have h3 : _ = _ := h2; exfalso; omega) | (intro b h1 h2 h3; have h4 : _ = _ := h3; (try dsimp only at h2); exfalso; omega) | (intro h1; have h2 : _ = _ := h1; exfalso; omega) | (intros; exfalso; (try dsimp only at *); omega) | (intro h1; exfalso; have h4 := h1.2; (try dsimp only at *); omega))
            replace hFr := hFr.chg k_4 (by first | (intro x h1 h2; have h3 : _ = _ := h2; exfalso; omega) | (intro b h1 h2 h3; have h4 : _ = _ := h3; (try dsimp only at h2); exfalso; omega) | (intro h1; have h2 : _ = _ := h1; exfalso; omega) | (intros; exfalso; (try dsimp only at *); omega) | (intro h1; exfalso; have h4 := h1.2; (try dsimp only at *); omega))
            replace hbp := hn_4
            refine WL.nil (WX.then_normal (WC.seq (?_)))
            have hb8 : Blk _ gp 27 (ept.f p) := hbp
            replace hX := RX.mono (S' := fun b => (w.heap.size ≤ b ∧ b ≠ g_1 ∧ b ≠ g_2) ∧ ¬ Eqb sao b ∧ ¬ Eqb fao b) hX (fun b hb => hb.1)
            replace hSt := Row.mono (S' := fun b => w.heap.size ≤ b ∧ b ≠ g_1 ∧ b ≠ g_2 ∧ b ≠ gs) hSt (fun b hb => hb.1)
            replace hFr := Row.mono (S' := fun b => w.heap.size ≤ b ∧ b ≠ g_1 ∧ b ≠ g_2 ∧ b ≠ gs) hFr (fun b hb => hb.1)
            refine WC.draw (Nob) [0, 1, 2, 3, 4, 5] [] mixed rfl rfl (fun wd_5 kd_5 zd_5 => ?_)
            have zs_kd_5 := kd_5.size
            replace hb4 := hb4.pure kd_5
            replace hb2 := hb2.pure kd_5
            replace hw := hw.pure kd_5
            replace hX := hX.pure kd_5
            replace hSt := hSt.pure kd_5
            replace hFr := hFr.pure kd_5
            replace hb8 := hb8.pure kd_5
            apply DQ.step (E' := [(11, _)])
            case ho => rfl
            case hs => exact ⟨rfl, trivial⟩
            case hk => rfl
            case h1 =>
              intro wq_6 kq_6
              refine WL.fieldAddr (fld_27_2) rfl rfl (?_)
              refine WL.nil ?_
              exact WX.one ⟨rfl, by first | exact Chg.refl _ _ | assumption⟩
            apply DQ.step (E' := [(57, _)])
            case ho => rfl
            case hs => exact ⟨rfl, trivial⟩
            case hk => rfl
            case h1 =>
              intro wq_7 kq_7
              have zs_kq_7 := kq_7.size
              replace hb4 := hb4.pure kq_7
              replace hb2 := hb2.pure kq_7
              replace hw := hw.pure kq_7
              replace hX := hX.pure kq_7
              replace hSt := hSt.pure kq_7
              replace hFr := hFr.pure kq_7
              replace hb8 := hb8.pure kq_7
              refine WL.loadB Try.isAgg3 hb8 rfl rfl rfl (?_)
              refine WL.nil ?_
              exact WX.one ⟨rfl, by first | exact Chg.refl _ _ | assumption⟩
            apply DQ.step (E' := [(2, _)])
            case ho => rfl
            case hs => exact ⟨rfl, trivial⟩
            case hk => rfl
            case h1 =>
              intro wq_8 kq_8
              have zs_kq_8 := kq_8.size
              replace hb4 := hb4.pure kq_8
              replace hb2 := hb2.pure kq_8
              replace hw := hw.pure kq_8
              replace hX := hX.pure kq_8
              replace hSt := hSt.pure kq_8
              replace hFr := hFr.pure kq_8
              replace hb8 := hb8.pure kq_8
              refine WL.loadsB Try.isAgg33 Try.sizeOf33 hb4 rfl (by first | (simp; done) | (simp; omega) | rfl) rfl (?_)
              refine WL.nil ?_
              exact WX.one ⟨rfl, by first | exact Chg.refl _ _ | assumption⟩
            apply DQ.step (E' := [(1, _)])
            case ho => rfl
            case hs => exact ⟨rfl, trivial⟩
            case hk => rfl
            case h1 =>
              intro wq_9 kq_9
              refine WL.move rfl rfl (?_)
              refine WL.nil ?_
              exact WX.one ⟨rfl, by first | exact Chg.refl _ _ | assumption⟩
            apply DQ.step (E' := [(59, _), (60, _)])
            case ho => rfl
            case hs => exact ⟨rfl, rfl, trivial⟩
            case hk => rfl
            case h1 =>
              intro wq_10 kq_10
              have zs_kq_10 := kq_10.size
              replace hb4 := hb4.pure kq_10
              replace hb2 := hb2.pure kq_10
              replace hw := hw.pure kq_10
              replace hX := hX.pure kq_10
              replace hSt := hSt.pure kq_10
              replace hFr := hFr.pure kq_10
              replace hb8 := hb8.pure kq_10
              refine WL.call eg_26 rfl rfl (ahead_calls (l := ⟨ba, some ⟨gs, 0, none⟩, sc, sn, da, dc, de⟩) hX.snaps.rsl (by show sn.length ≤ _; omega) kk (by show kk ≤ sn.length; omega)) ?_
              rintro v w4 ⟨rfl, k4⟩
              rw [show (LnV.abs ⟨ba, some ⟨gs, 0, none⟩, sc, sn, da, dc, de⟩).ahead kk = ah from by rw [ha, hah]]
              have zs_k4 := k4.size
              replace hb4 := hb4.pure k4
              replace hb2 := hb2.pure k4
              replace hw := hw.pure k4
              replace hX := hX.pure k4
              replace hSt := hSt.pure k4
              replace hFr := hFr.pure k4
              replace hb8 := hb8.pure k4
              refine WL.nil ?_
              exact WX.one ⟨rfl, by first | exact Chg.refl _ _ | assumption⟩
            apply DQ.split (E' := [(58, _), (61, _)])
            case ho => rfl
            case hs => exact ⟨rfl, rfl, trivial⟩
            case hk => rfl
            case h1 =>
              intro wq_11 kq_11
              refine WL.gtr rfl rfl rfl ?_
              refine WL.nil ?_
              exact WX.one ⟨rfl, by first | exact Chg.refl _ _ | assumption⟩
            case ht =>
              intro h62
              replace h62 := of_decide_eq_true h62
              refine DQ.done (fun _ => ?_)
              refine DL.done (fun we_12 ke_12 => ?_)
              have zs_ke_12 := ke_12.size
              replace hb4 := hb4.pure ke_12
              replace hb2 := hb2.pure ke_12
              replace hw := hw.pure ke_12
              replace hX := hX.pure ke_12
              replace hSt := hSt.pure ke_12
              replace hFr := hFr.pure ke_12
              replace hb8 := hb8.pure ke_12
              refine WX.then_normal (WC.cond_true rfl (WC.region (WL.move rfl rfl (WL.loadsB Try.isAgg27 Try.sizeOf27 hb8 rfl (by first | (simp; done) | (simp; omega) | rfl) rfl (?_)))))
              refine WL.build (e := ept) [p] Try.underlying23 Try.sizeOf27 Try.zeroValue27 rfl rfl rfl (by first | (simp [Value.cells]; done) | (simp [Value.cells] <;> rfl) | (simp [Value.cells, eb, ei, es, ebool, e32, e64]; done)) (by decide) rfl ?_
              intro a_hq w_hq hq l_hq z_hq k_hq
              have zs_k_hq := k_hq.size
              replace hb4 := hb4.pure k_hq
              replace hb2 := hb2.pure k_hq
              replace hw := hw.pure k_hq
              replace hX := hX.pure k_hq
              replace hSt := hSt.pure k_hq
              replace hFr := hFr.pure k_hq
              replace hb8 := hb8.pure k_hq
              refine WL.append (e := ept) info_27 rfl Try.underlying23 rfl rfl hFr (hq.rsl.src Try.underlying23) (by constructor <;> (simp only [List.length_cons, List.length_nil]; omega)) (fun x hx => by omega) rfl ?_
              intro ao9 c9 w9 hb9 gg9 n9
              have hX9 := hX.grow gg9
              have hSt9 := Row.other hSt hAp gg9
              have hAp9 := hAp.grow hSt.own.lt gg9
              have gk : Chg (fun x => w.heap.size ≤ x ∧ x ≠ g_1 ∧ x ≠ g_2 ∧ x ≠ gs) _ w9 := gg9.chg.mono (fun x _ hx => hx.2)
              have zs_gk := gk.size
              replace hb4 := hb4.chg gk (by first | (intro x h1 h2; have h3 : _ = _ := h2; exfalso; omega) | (intro b h1 h2 h3; have h4 : _ = _ := h3; (try dsimp only at h2); exfalso; omega) | (intro h1; have h2 : _ = _ := h1; exfalso; omega) | (intros; exfalso; (try dsimp only at *); omega) | (intro h1; exfalso; have h4 := h1.2; (try dsimp only at *); omega))
              replace hb2 := hb2.chg gk (by first | (intro x h1 h2; have h3 : _ = _ := h2; exfalso; omega) | (intro b h1 h2 h3; have h4 : _ = _ := h3; (try dsimp only at h2); exfalso; omega) | (intro h1; have h2 : _ = _ := h1; exfalso; omega) | (intros; exfalso; (try dsimp only at *); omega) | (intro h1; exfalso; have h4 := h1.2; (try dsimp only at *); omega))
              replace hw := hw.chg gk (by first | (intro x h1 h2; have h3 : _ = _ := h2; exfalso; omega) | (intro b h1 h2 h3; have h4 : _ = _ := h3; (try dsimp only at h2); exfalso; omega) | (intro h1; have h2 : _ = _ := h1; exfalso; omega) | (intros; exfalso; (try dsimp only at *); omega) | (intro h1; exfalso; have h4 := h1.2; (try dsimp only at *); omega))
              refine WL.assign rfl rfl (WL.nil (WX.block_normal (WX.then_normal (WC.region (WL.add64 rfl rfl (by first | omega | (constructor <;> omega)) rfl (WL.move rfl rfl (WL.nil (?_))))))))
              have htk : nl.take (i + 1) = nl.take i ++ [p] := by rw [List.take_add_one, hp]; rfl
              first
                | (have hh : ah < p.b := h62
                   exact WX.loop_next (i + 1, (sao, sc2, st), (ao9, c9, fr ++ [p])) ⟨rfl, rfl, rfl, rfl, rfl, rfl, rfl, rfl, rfl, trivial⟩ ⟨by show i + 1 ≤ _; omega, hb4, hb2, hw, hX9, hSt9, hb9, hAp9, by rw [htk, List.filter_append, hst]; simp [hh], by rw [htk, List.filter_append, hfr]; simp [hh]⟩ (by show nl.length - (i + 1) < nl.length - i; omega))
                | (have hh : ¬ ah < p.b := h62
                   exact WX.loop_next (i + 1, (ao9, c9, st ++ [p]), (fao, fc, fr)) ⟨rfl, rfl, rfl, rfl, rfl, rfl, rfl, rfl, rfl, trivial⟩ ⟨by show i + 1 ≤ _; omega, hb4, hb2, hw, hX9, hb9, hFr9, hAp9, by rw [htk, List.filter_append, hst]; simp [hh], by rw [htk, List.filter_append, hfr]; simp [hh]⟩ (by show nl.length - (i + 1) < nl.length - i; omega))
            case hf =>
              intro h62
              replace h62 := of_decide_eq_false h62
              refine DQ.done (fun _ => ?_)
              refine DL.done (fun we_12 ke_12 => ?_)
              have zs_ke_12 := ke_12.size
              replace hb4 := hb4.pure ke_12
              replace hb2 := hb2.pure ke_12
              replace hw := hw.pure ke_12
              replace hX := hX.pure ke_12
              replace hSt := hSt.pure ke_12
              replace hFr := hFr.pure ke_12
              replace hb8 := hb8.pure ke_12
              refine WX.then_normal (WC.cond_false rfl (WC.region (WL.move rfl rfl (WL.loadsB Try.isAgg27 Try.sizeOf27 hb8 rfl (by first | (simp; done) | (simp; omega) | rfl) rfl (?_)))))
              refine WL.build (e := ept) [p] Try.underlying23 Try.sizeOf27 Try.zeroValue27 rfl rfl rfl (by first | (simp [Value.cells]; done) | (simp [Value.cells] <;> rfl) | (simp [Value.cells, eb, ei, es, ebool, e32, e64]; done)) (by decide) rfl ?_
              intro a_hq w_hq hq l_hq z_hq k_hq
              have zs_k_hq := k_hq.size
              replace hb4 := hb4.pure k_hq
              replace hb2 := hb2.pure k_hq
              replace hw := hw.pure k_hq
              replace hX := hX.pure k_hq
              replace hSt := hSt.pure k_hq
              replace hFr := hFr.pure k_hq
              replace hb8 := hb8.pure k_hq
              refine WL.append (e := ept) info_27 rfl Try.underlying23 rfl rfl hSt (hq.rsl.src Try.underlying23) (by constructor <;> (simp only [List.length_cons, List.length_nil]; omega)) (fun x hx => by omega) rfl ?_
              intro ao9 c9 w9 hb9 gg9 n9
              have hX9 := (hX.swap.grow gg9).swap
              have hFr9 := Row.other hFr hAp.symm gg9
              have hAp9 := (hAp.symm.grow hFr.own.lt gg9).symm
              have gk : Chg (fun x => w.heap.size ≤ x ∧ x ≠ g_1 ∧ x ≠ g_2 ∧ x ≠ gs) _ w9 := gg9.chg.mono (fun x _ hx => hx.2)
              have zs_gk := gk.size
              replace hb4 := hb4.chg gk (by first | (intro x h1 h2; have h3 : _ = _ := h2; exfalso; omega) | (intro b h1 h2 h3; have h4 : _ = _ := h3; (try dsimp only at h2); exfalso; omega) | (intro h1; have h2 : _ = _ := h1; exfalso; omega) | (intros; exfalso; (try dsimp only at *); omega) | (intro h1; exfalso; have h4 := h1.2; (try dsimp only at *); omega))
              replace hb2 := hb2.chg gk (by first | (intro x h1 h2; have h3 : _ = _ := h2; exfalso; omega) | (intro b h1 h2 h3; have h4 : _ = _ := h3; (try dsimp only at h2); exfalso; omega) | (intro h1; have h2 : _ = _ := h1; exfalso; omega) | (intros; exfalso; (try dsimp only at *); omega) | (intro h1; exfalso; have h4 := h1.2; (try dsimp only at *); omega))
              replace hw := hw.chg gk (by first | (intro x h1 h2; have h3 : _ = _ := h2; exfalso; omega) | (intro b h1 h2 h3; have h4 : _ = _ := h3; (try dsimp only at h2); exfalso; omega) | (intro h1; have h2 : _ = _ := h1; exfalso; omega) | (intros; exfalso; (try dsimp only at *); omega) | (intro h1; exfalso; have h4 := h1.2; (try dsimp only at *); omega))
              refine WL.assign rfl rfl (WL.nil (WX.block_normal (WX.then_normal (WC.region (WL.add64 rfl rfl (by first | omega | (constructor <;> omega)) rfl (WL.move rfl rfl (WL.nil (?_))))))))
              have htk : nl.take (i + 1) = nl.take i ++ [p] := by rw [List.take_add_one, hp]; rfl
              first
                | (have hh : ah < p.b := h62
                   exact WX.loop_next (i + 1, (sao, sc2, st), (ao9, c9, fr ++ [p])) ⟨rfl, rfl, rfl, rfl, rfl, rfl, rfl, rfl, rfl, trivial⟩ ⟨by show i + 1 ≤ _; omega, hb4, hb2, hw, hX9, hSt9, hb9, hAp9, by rw [htk, List.filter_append, hst]; simp [hh], by rw [htk, List.filter_append, hfr]; simp [hh]⟩ (by show nl.length - (i + 1) < nl.length - i; omega))
                | (have hh : ¬ ah < p.b := h62
                   exact WX.loop_next (i + 1, (ao9, c9, st ++ [p]), (fao, fc, fr)) ⟨rfl, rfl, rfl, rfl, rfl, rfl, rfl, rfl, rfl, trivial⟩ ⟨by show i + 1 ≤ _; omega, hb4, hb2, hw, hX9, hb9, hFr9, hAp9, by rw [htk, List.filter_append, hst]; simp [hh], by rw [htk, List.filter_append, hfr]; simp [hh]⟩ (by show nl.length - (i + 1) < nl.length - i; omega))
          ·
            refine WL.nil (WX.then_normal (WC.seq (WC.cond_false rfl (WC.exit (WX.then_exit (WX.then_exit (WX.block_here (?_))))))))
            refine WX.then_normal (WC.seq (WC.region (WL.move rfl rfl (WL.move rfl rfl (WL.nilCheck rfl rfl (?_))))))
            have hti : nl.take i = nl := List.take_of_length_le (by omega)
            rw [hti] at hst hfr
            have hXS := hX.mono (S' := fun b => w.heap.size ≤ b ∧ b ≠ g_1 ∧ b ≠ g_2) (fun b hb => hb.1)
            have hStS := hSt.mono (S' := fun b => w.heap.size ≤ b ∧ b ≠ g_1 ∧ b ≠ g_2) (fun b hb => ⟨hb.1, hb.2.1, hb.2.2.1⟩)
            have hgs := hXS.snaps.at_ _ rfl
            have hgs0 : w.heap.size ≤ gs := hgs.1
            have hgs1 : gs ≠ g_1 := hgs.2.1
            have hgs2 : gs ≠ g_2 := hgs.2.2
            have hbs : l.abs.base = ba := (congrArg LA.base ha).symm
            have hds : l.abs.dead = de := (congrArg LA.dead ha).symm
            rw [hah] at hst hfr
            have hfin : ∃ k8 : Unit, True := ⟨(), trivial⟩
            clear hfin
            first
              | (have h36' : (kk : Int) + 1 < (sn.length : Int) := h36
                 obtain ⟨x1, hx1, hn1⟩ : ∃ x1 : SnV, sn[kk + 1]? = some x1 ∧ nl = x1.dead := by
                   rcases hNx with ⟨x1, hx1, _, _, h4⟩ | ⟨hx1, _⟩
                   ·
                     exact ⟨x1, hx1, h4⟩
                   ·
                     exact absurd hx1 (by rw [List.getElem?_eq_getElem (by omega)]; simp)
                 rw [hn1] at hst hfr
                 obtain ⟨hd6, hn6⟩ := dest_A (L := l.abs) hsa.symm hx0 hx1 hst sao sc2
                 rw [hbs, hds] at hd6
                 refine WL.storeF (e := esn) (ys := sn.set (kk + 1) ⟨x1.txg, sao, sc2, st⟩) Try.sizeOf23 hXS.snaps rfl rfl rfl (by show 0 + (kk + 1) * 2 + 1 + 1 ≤ sn.length * 2; omega) (List.length_set ..) (sn_set hx1 ⟨x1.txg, sao, sc2, st⟩ rfl) ?_
                 intro w8 z8 hW8 k8
                 have hX8 := hXS.put (by decide) rfl (y := ⟨x1.txg, sao, sc2, st⟩) hStS hW8 k8
                 have hb48 := hb4.chg k8 (fun e : g_1 = gs => hgs1 e.symm)
                 have hfin : ∃ (sn2 : List SnV) (dao2 : Option Addr) (dcap2 : Nat) (dead2 : List PtV), Blk w8 g_1 33 (lcells ⟨ba, some ⟨gs, 0, none⟩, sc, sn2, dao2, dcap2, dead2⟩) ∧ RX (fun b => w.heap.size ≤ b ∧ b ≠ g_1 ∧ b ≠ g_2) w8 65 kk ⟨ba, some ⟨gs, 0, none⟩, sc, sn2, dao2, dcap2, dead2⟩ ∧ sn2.length = sn.length ∧ LA.mk ba (sabs (sn2.take kk ++ sn2.drop (kk + 1))) dead2 = destroyA l.abs kk ∧ fr = freeA l.abs kk := by
                   refine ⟨sn.set (kk + 1) ⟨x1.txg, sao, sc2, st⟩, da, dc, de, ?_, hX8, List.length_set .., hd6, by rw [freeA, hn6]; exact hfr⟩
                   have h9 : Blk w8 g_1 33 [vi ba, .slice (some ⟨gs, 0, none⟩) sn.length sc, .slice da de.length dc] := hb48
                   rw [show sn.length = (sn.set (kk + 1) ⟨x1.txg, sao, sc2, st⟩).length from (List.length_set ..).symm] at h9
                   exact h9
                 have k9 : Chg (fun b => b = gs ∨ b = g_1) _ w8 := k8.mono (fun _ _ h => .inl h))
              | (have h36' : (sn.length : Int) ≤ (kk : Int) + 1 := h36
                 obtain ⟨hx1, hn1⟩ : sn[kk + 1]? = none ∧ nl = de := by
                   rcases hNx with ⟨x1, hx1, _, _, h4⟩ | ⟨hx1, _, _, h4⟩
                   ·
                     have := (List.getElem?_eq_some_iff.1 hx1).1
                     omega
                   ·
                     exact ⟨hx1, h4⟩
                 rw [hn1, ← hds] at hst hfr
                 obtain ⟨hd6, hn6⟩ := dest_B (L := l.abs) hsa.symm hx0 hx1 hst
                 rw [hbs] at hd6
                 refine WL.store Try.sizeOf23 hb4 rfl rfl rfl rfl ?_
                 intro w8 z8 hn8 k8
                 have hX8 : RX (fun b => w.heap.size ≤ b ∧ b ≠ g_1 ∧ b ≠ g_2) w8 65 kk ⟨ba, some ⟨gs, 0, none⟩, sc, sn, sao, sc2, st⟩ := by
                   have h1 := hXS.chg k8 (fun b _ h2 h3 => h2.2.1 h3)
                   have h2 := hStS.chg k8 (fun b _ h2 h3 => h2.2.1 h3)
                   exact ⟨h1.snaps, h1.rest, h2⟩
                 have hfin : ∃ (sn2 : List SnV) (dao2 : Option Addr) (dcap2 : Nat) (dead2 : List PtV), Blk w8 g_1 33 (lcells ⟨ba, some ⟨gs, 0, none⟩, sc, sn2, dao2, dcap2, dead2⟩) ∧ RX (fun b => w.heap.size ≤ b ∧ b ≠ g_1 ∧ b ≠ g_2) w8 65 kk ⟨ba, some ⟨gs, 0, none⟩, sc, sn2, dao2, dcap2, dead2⟩ ∧ sn2.length = sn.length ∧ LA.mk ba (sabs (sn2.take kk ++ sn2.drop (kk + 1))) dead2 = destroyA l.abs kk ∧ fr = freeA l.abs kk :=
                   ⟨sn, sao, sc2, st, hn8, hX8, rfl, hd6, by rw [freeA, hn6]; exact hfr⟩
                 have k9 : Chg (fun b => b = gs ∨ b = g_1) _ w8 := k8.mono (fun _ _ h => .inr h))
            obtain ⟨sn2, dao2, dcap2, dead2, hb6, hX6, hl6, hd6, hf6⟩ := hfin
            have zk9 := k9.size
            replace hb2 := hb2.chg k9 (by rintro (h | h) <;> omega)
            replace hw := hw.chg k9 (by intro x h1 h2; exfalso; rcases h2 with h | h <;> omega)
            replace hFr := hFr.chg k9 (by intro b h1 h2 h3; rcases h3 with h | h <;> omega)
            refine WL.nil (WX.then_normal (WC.seq (WC.region (WL.fieldAddr (fld_33_1) rfl rfl (WL.loadB Try.isAgg31 hb6 rfl rfl rfl (WL.move rfl rfl (WL.move rfl rfl (?_))))))))
            refine WL.add64 rfl rfl (by first | omega | (constructor <;> omega)) rfl (?_)
            refine WL.call eg_31 rfl rfl (sdelete_calls hX6.snaps kk (by show kk < sn2.length; omega) (by show sn2.length ≤ _; omega)) ?_
            rintro v w9 ⟨rfl, hW9, k10⟩
            have hL := hX6.delW rfl hW9 k10
            have zs_k10 := k10.size
            replace hb2 := hb2.chg k10 (by first | (intro x h1 h2; have h3 : _ = _ := h2; exfalso; omega) | (intro b h1 h2 h3; have h4 : _ = _ := h3; (try dsimp only at h2); exfalso; omega) | (intro h1; have h2 : _ = _ := h1; exfalso; omega) | (intros; exfalso; (try dsimp only at *); omega) | (intro h1; exfalso; have h4 := h1.2; (try dsimp only at *); omega))
            replace hw := hw.chg k10 (by first | (intro x h1 h2; have h3 : _ = _ := h2; exfalso; omega) | (intro b h1 h2 h3; have h4 : _ = _ := h3; (try dsimp only at h2); exfalso; omega) | (intro h1; have h2 : _ = _ := h1; exfalso; omega) | (intros; exfalso; (try dsimp only at *); omega) | (intro h1; exfalso; have h4 := h1.2; (try dsimp only at *); omega))
            replace hFr := hFr.chg k10 (by first | (intro x h1 h2; have h3 : _ = _ := h2; exfalso; omega) | (intro b h1 h2 h3; have h4 : _ = _ := h3; (try dsimp only at h2); exfalso; omega) | (intro h1; have h2 : _ = _ := h1; exfalso; omega) | (intros; exfalso; (try dsimp only at *); omega) | (intro h1; exfalso; have h4 := h1.2; (try dsimp only at *); omega))
            replace hb6 := hb6.chg k10 (by first | (intro x h1 h2; have h3 : _ = _ := h2; exfalso; omega) | (intro b h1 h2 h3; have h4 : _ = _ := h3; (try dsimp only at h2); exfalso; omega) | (intro h1; have h2 : _ = _ := h1; exfalso; omega) | (intros; exfalso; (try dsimp only at *); omega) | (intro h1; exfalso; have h4 := h1.2; (try dsimp only at *); omega))
            refine WL.fieldAddr (fld_33_1) rfl rfl (?_)
            refine WL.store Try.sizeOf31 hb6 rfl rfl rfl rfl ?_
            intro w_4 hs_4 hn_4 k_4
            have zs_k_4 := k_4.size
            replace hb2 := hb2.chg k_4 (by first | (intro x h1 h2; have h3 : _ = _ := h2; exfalso; omega) | (intro b h1 h2 h3; have h4 : _ = _ := h3; (try dsimp only at h2); exfalso; omega) | (intro h1; have h2 : _ = _ := h1; exfalso; omega) | (intros; exfalso; (try dsimp only at *); omega) | (intro h1; exfalso; have h4 := h1.2; (try dsimp only at *); omega))
            replace hw := hw.chg k_4 (by first | (intro x h1 h2; have h3 : _ = _ := h2; exfalso; omega) | (intro b h1 h2 h3; have h4 : _ = _ := h3; (try dsimp only at h2); exfalso; omega) | (intro h1; have h2 : _ = _ := h1; exfalso; omega) | (intros; exfalso; (try dsimp only at *); omega) | (intro h1; exfalso; have h4 := h1.2; (try dsimp only at *); omega))
            replace hFr := hFr.chg k_4 (by first | (intro x h1 h2; have h3 : _ = _ := h2; exfalso; omega) | (intro b h1 h2 h3; have h4 : _ = _ := h3; (try dsimp only at h2); exfalso; omega) | (intro h1; have h2 : _ = _ := h1; exfalso; omega) | (intros; exfalso; (try dsimp only at *); omega) | (intro h1; exfalso; have h4 := h1.2; (try dsimp only at *); omega))
            replace hL := hL.chg k_4 (by first | (intro x h1 h2; have h3 : _ = _ := h2; exfalso; omega) | (intro b h1 h2 h3; have h4 : _ = _ := h3; (try dsimp only at h2); exfalso; omega) | (intro h1; have h2 : _ = _ := h1; exfalso; omega) | (intros; exfalso; (try dsimp only at *); omega) | (intro h1; exfalso; have h4 := h1.2; (try dsimp only at *); omega))
            replace hb6 := hn_4
            refine WL.nil (WX.then_normal (WC.seq (WC.region (WL.loadsB Try.isAgg33 Try.sizeOf33 hb6 rfl (by first | (simp; done) | (simp; omega) | rfl) rfl (WL.move rfl rfl (?_))))))
            refine WL.stores Try.sizeOf33 hb2 rfl rfl (by first | (simp; done) | (simp; omega) | rfl) (by first | exact Enc.one _ _ | (intro u hu; obtain ⟨x, _, rfl⟩ := List.mem_map.1 hu; rfl) | (simp [Value.oneCell']; done) | (simp [Value.oneCell', Value.cells]; done)) (by first | (simp; done) | (simp; omega) | (simp [Value.cells]; done) | (simp [Value.cells]; omega) | exact Nat.le_of_ble_eq_true rfl) rfl ?_
            intro w_5 hs_5 hn_5 k_5
            have zs_k_5 := k_5.size
            replace hw := hw.chg k_5 (by first | (intro x h1 h2; have h3 : _ = _ := h2; exfalso; omega) | (intro b h1 h2 h3; have h4 : _ = _ := h3; (try dsimp only at h2); exfalso; omega) | (intro h1; have h2 : _ = _ := h1; exfalso; omega) | (intros; exfalso; (try dsimp only at *); omega) | (intro h1; exfalso; have h4 := h1.2; (try dsimp only at *); omega))
            replace hFr := hFr.chg k_5 (by first | (intro x h1 h2; have h3 : _ = _ := h2; exfalso; omega) | (intro b h1 h2 h3; have h4 : _ = _ := h3; (try dsimp only at h2); exfalso; omega) | (intro h1; have h2 : _ = _ := h1; exfalso; omega) | (intros; exfalso; (try dsimp only at *); omega) | (intro h1; exfalso; have h4 := h1.2; (try dsimp only at *); omega))
            replace hb6 := hb6.chg k_5 (by first | (intro x h1 h2; have h3 : _ = _ := h2; exfalso; omega) | (intro b h1 h2 h3; have h4 : _ = _ := h3; (try dsimp only at h2); exfalso; omega) | (intro h1; have h2 : _ = _ := h1; exfalso; omega) | (intros; exfalso; (try dsimp only at *); omega) | (intro h1; exfalso; have h4 := h1.2; (try dsimp only at *); omega))
            replace hL := hL.chg k_5 (by first | (intro x h1 h2; have h3 : _ = _ := h2; exfalso; omega) | (intro b h1 h2 h3; have h4 : _ = _ := h3; (try dsimp only at h2); exfalso; omega) | (intro h1; have h2 : _ = _ := h1; exfalso; omega) | (intros; exfalso; (try dsimp only at *); omega) | (intro h1; exfalso; have h4 := h1.2; (try dsimp only at *); omega))
            replace hb2 := hn_5
            refine WL.assign rfl rfl (WL.assign rfl rfl (WL.nil (WX.then_normal (WC.ret (?_)))))
            refine WX.ret3c (.inl rfl) Try.results19 Try.isAgg33 Try.sizeOf33 hb2 rfl (by first | (simp; done) | (simp; omega) | rfl) rfl rfl ?_
            first
              | (have hh : e ≠ 0 := h15
                 have h2 : e = 2 ∧ ¬ l.abs.Right := by
                   rcases he with ⟨h1, _⟩ | h1
                   ·
                     exact absurd h1 hh
                   ·
                     exact h1
                 exact ⟨_, rfl, ⟨⟨0, none, 0, [], none, 0, []⟩, none, 0, [], 2, rfl, .inl ⟨h2.2, rfl, rfl, rfl⟩, ⟨Row.nil _ _ _ _, Row.nil _ _ _ _, fun x hx => by cases hx⟩, Row.nil _ _ _ _⟩, hw⟩)
              | (have hh : k < 0 ∨ (l.abs.snaps.length : Int) ≤ k := by
                   rw [show l.abs.snaps.length = l.snaps.length from sabs_len _]
                   omega
                 have hR : l.abs.Right := by
                   rcases he with ⟨_, h1⟩ | ⟨h1, _⟩
                   ·
                     exact h1
                   ·
                     omega
                 exact ⟨_, rfl, ⟨⟨0, none, 0, [], none, 0, []⟩, none, 0, [], 1, rfl, .inr (.inl ⟨hR, hh, rfl, rfl, rfl⟩), ⟨Row.nil _ _ _ _, Row.nil _ _ _ _, fun x hx => by cases hx⟩, Row.nil _ _ _ _⟩, hw⟩)
              | (refine ⟨_, rfl, ⟨⟨ba, some ⟨gs, 0, none⟩, sc, sn2.take kk ++ sn2.drop (kk + 1), dao2, dcap2, dead2⟩, fao, fc, fr, 0, rfl, .inr (.inr ⟨hR, ?_, hd6, hf6, rfl⟩), hL.mono (fun x hx => hx.1), hFr.mono (fun x hx => hx.1)⟩, hw⟩
                 rw [show l.abs.snaps.length = l.snaps.length from sabs_len _]
                 omega)
theorem Destroy_calls {S : Nat → Prop} {w : World} {l : LnV} (h : LS S w l) (hs : Sm 50 l) (k : Int) (hk : -9223372036854775808 ≤ k ∧ k ≤ 9223372036854775807) (hz : l.dead.length ≤ 1700000000000 ∧ ∀ x ∈ l.snaps, x.dead.length ≤ 1700000000000) :
    Calls Try.prog 19 [lval l, vi k].toArray w (Ret fun v w' => (∃ l' fao fc fr e, v = .tuple #[lval l', .slice fao fr.length fc, vi e] ∧ DestR l.abs k l'.abs fr e ∧ LS (w.heap.size ≤ ·) w' l' ∧ RSl (w.heap.size ≤ ·) w' ept fao fc fr) ∧ Chg Nob w w') := by
  refine (DestroyO_calls h hs k hk hz).mono ?_
  rintro e w' ⟨v, rfl, ⟨l', fao, fc, fr, e, rfl, hR, hL, hF⟩, hc⟩
  exact ⟨_, rfl, ⟨l', fao, fc, fr, e, rfl, hR, hL.ls, hF.rsl⟩, hc⟩
end Go.Proofs.Ytgmkoieemmglpaa
