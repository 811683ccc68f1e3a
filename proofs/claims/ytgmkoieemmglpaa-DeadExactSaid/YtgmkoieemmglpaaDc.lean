import Derived.Test.YtgmkoieemmglpaaHx
import Derived.Test.YtgmkoieemmglpaaDb
namespace Go.Proofs.Ytgmkoieemmglpaa
open Go.RowKit Go.HL

/-! rows of one's own -/
theorem pclone_calls {S : Nat → Prop} {w : World} {ao : Option Addr} {c : Nat} {ps : List PtV} (hr : RSl S w ept ao c ps) (hl : ps.length ≤ 3518437208840) :
    Calls Try.prog 34 [.slice ao ps.length c].toArray w (Ret fun v w' => (∃ (ao' : Option Addr) (c' : Nat), v = .slice ao' ps.length c' ∧ Row (w.heap.size ≤ ·) w' 27 ept ao' c' ps) ∧ Chg Nob w w') := by
  replace hr := hr.old
  have hw := Chg.refl Nob w
  refine Calls.of_WC Try.func34 rfl Try.ntmps34 (by simp) ?_
  refine WC.seq (WC.region (WL.assign rfl rfl (WL.nil (WX.then_normal (WC.seq (WC.seq (WC.region (?_))))))))
  refine WL.move rfl rfl (?_)
  refine WL.isNil? Try.underlying23 rfl rfl rfl (fun h4 => ?_) (fun h4 => ?_)
  ·
    refine WL.nil (WX.then_normal (WC.cond_true rfl (WC.seq (WC.region (WL.assign rfl rfl (WL.nil (WX.then_normal (?_))))))))
    refine WC.ret (WX.then_ret (?_))
    refine WX.ret1 (.inl rfl) Try.results34 rfl ?_
    first
      | (subst h4
         have hn := hr.none_nil
         subst hn
         exact ⟨_, rfl, ⟨none, 0, rfl, Row.nil _ _ _ _⟩, hw⟩)
      | exact ⟨_, rfl, ⟨_, _, rfl, hq2⟩, hw⟩
  ·
    refine WL.nil (WX.then_normal (WC.cond_false rfl (WC.skip (WX.then_normal (WC.seq (WC.region (?_)))))))
    refine WL.build (e := ept) [] Try.underlying23 Try.sizeOf27 Try.zeroValue27 rfl rfl rfl (by first | (simp [Value.cells]; done) | (simp [Value.cells] <;> rfl) | (simp [Value.cells, eb, ei, es, ebool, e32, e64]; done)) (by decide) rfl ?_
    intro a_hq w_hq hq l_hq z_hq k_hq
    have zs_k_hq := k_hq.size
    replace hr := hr.pure k_hq
    replace hw := hw.pure k_hq
    refine WL.move rfl rfl (?_)
    refine WL.append (e := ept) info_27 rfl Try.underlying23 rfl rfl hq (hr.src Try.underlying23) (by (try simp only [List.length_append, List.length_cons, List.length_nil] at *); omega) (by intro b hb; first | (apply hS; omega) | ((try dsimp only); omega)) rfl ?_
    intro a_hq2 c_hq2 w_hq2 hq2 g_hq2 n_hq2
    have z_hq2 := g_hq2.chg.size
    have zs_g_hq2_chg := g_hq2.chg.size
    replace hr := hr.chg g_hq2.chg (by first | (intro x h1 h2; exact h2) | (intro x h1 h2; have h3 : _ = _ := h2; exfalso; omega) | (intro b h1 h2 h3; have h4 : _ = _ := h3; (try dsimp only at h2); exfalso; omega) | (intro h1; have h2 : _ = _ := h1; exfalso; omega) | (intros; exfalso; (try dsimp only at *); omega))
    replace hw := hw.chg g_hq2.chg (by first | (intro x h1 h2; exact h2) | (intro x h1 h2; have h3 : _ = _ := h2; exfalso; omega) | (intro b h1 h2 h3; have h4 : _ = _ := h3; (try dsimp only at h2); exfalso; omega) | (intro h1; have h2 : _ = _ := h1; exfalso; omega) | (intros; exfalso; (try dsimp only at *); omega))
    refine WL.assign rfl rfl (WL.nil (WX.then_normal (WC.ret (?_))))
    refine WX.ret1 (.inl rfl) Try.results34 rfl ?_
    first
      | (subst h4
         have hn := hr.none_nil
         subst hn
         exact ⟨_, rfl, ⟨none, 0, rfl, Row.nil _ _ _ _⟩, hw⟩)
      | exact ⟨_, rfl, ⟨_, _, rfl, hq2⟩, hw⟩
theorem sclone_calls {S : Nat → Prop} {w : World} {ao : Option Addr} {c : Nat} {ps : List SnV} (hr : RSl S w esn ao c ps) (hl : ps.length ≤ 4398046511040) :
    Calls Try.prog 35 [.slice ao ps.length c].toArray w (Ret fun v w' => (∃ (ao' : Option Addr) (c' : Nat), v = .slice ao' ps.length c' ∧ Row (w.heap.size ≤ ·) w' 65 esn ao' c' ps) ∧ Chg Nob w w') := by
  replace hr := hr.old
  have hw := Chg.refl Nob w
  refine Calls.of_WC Try.func35 rfl Try.ntmps35 (by simp) ?_
  refine WC.seq (WC.region (WL.assign rfl rfl (WL.nil (WX.then_normal (WC.seq (WC.seq (WC.region (?_))))))))
  refine WL.move rfl rfl (?_)
  refine WL.isNil? Try.underlying31 rfl rfl rfl (fun h4 => ?_) (fun h4 => ?_)
  ·
    refine WL.nil (WX.then_normal (WC.cond_true rfl (WC.seq (WC.region (WL.assign rfl rfl (WL.nil (WX.then_normal (?_))))))))
    refine WC.ret (WX.then_ret (?_))
    refine WX.ret1 (.inl rfl) Try.results35 rfl ?_
    first
      | (subst h4
         have hn := hr.none_nil
         subst hn
         exact ⟨_, rfl, ⟨none, 0, rfl, Row.nil _ _ _ _⟩, hw⟩)
      | exact ⟨_, rfl, ⟨_, _, rfl, hq2⟩, hw⟩
  ·
    refine WL.nil (WX.then_normal (WC.cond_false rfl (WC.skip (WX.then_normal (WC.seq (WC.region (?_)))))))
    refine WL.build (e := esn) [] Try.underlying31 Try.sizeOf65 Try.zeroValue65 rfl rfl rfl (by first | (simp [Value.cells]; done) | (simp [Value.cells] <;> rfl) | (simp [Value.cells, eb, ei, es, ebool, e32, e64]; done)) (by decide) rfl ?_
    intro a_hq w_hq hq l_hq z_hq k_hq
    have zs_k_hq := k_hq.size
    replace hr := hr.pure k_hq
    replace hw := hw.pure k_hq
    refine WL.move rfl rfl (?_)
    refine WL.append (e := esn) info_65 rfl Try.underlying31 rfl rfl hq (hr.src Try.underlying31) (by (try simp only [List.length_append, List.length_cons, List.length_nil] at *); omega) (by intro b hb; first | (apply hS; omega) | ((try dsimp only); omega)) rfl ?_
    intro a_hq2 c_hq2 w_hq2 hq2 g_hq2 n_hq2
    have z_hq2 := g_hq2.chg.size
    have zs_g_hq2_chg := g_hq2.chg.size
    replace hr := hr.chg g_hq2.chg (by first | (intro x h1 h2; exact h2) | (intro x h1 h2; have h3 : _ = _ := h2; exfalso; omega) | (intro b h1 h2 h3; have h4 : _ = _ := h3; (try dsimp only at h2); exfalso; omega) | (intro h1; have h2 : _ = _ := h1; exfalso; omega) | (intros; exfalso; (try dsimp only at *); omega))
    replace hw := hw.chg g_hq2.chg (by first | (intro x h1 h2; exact h2) | (intro x h1 h2; have h3 : _ = _ := h2; exfalso; omega) | (intro b h1 h2 h3; have h4 : _ = _ := h3; (try dsimp only at h2); exfalso; omega) | (intro h1; have h2 : _ = _ := h1; exfalso; omega) | (intros; exfalso; (try dsimp only at *); omega))
    refine WL.assign rfl rfl (WL.nil (WX.then_normal (WC.ret (?_))))
    refine WX.ret1 (.inl rfl) Try.results35 rfl ?_
    first
      | (subst h4
         have hn := hr.none_nil
         subst hn
         exact ⟨_, rfl, ⟨none, 0, rfl, Row.nil _ _ _ _⟩, hw⟩)
      | exact ⟨_, rfl, ⟨_, _, rfl, hq2⟩, hw⟩
/-! lines of one's own -/
def Ap (x y : Option Addr) : Prop := ∀ a b, x = some a → y = some b → a.block ≠ b.block
theorem Ap.symm {x y : Option Addr} (h : Ap x y) : Ap y x := fun a b ha hb e => h b a hb ha e.symm
theorem Ap.of {S T : Nat → Prop} {x y : Option Addr} (h : At S x) (k : At T y) (hd : ∀ b, S b → T b → False) : Ap x y := fun a b ha hb e => hd _ (h a ha) (e ▸ k b hb)
theorem Ap.none (x : Option Addr) : Ap x none := fun _ _ _ h => by cases h
/-- the first of its snapshots have lists of their own; T: the type of its snapshots -/
structure LOi (S : Nat → Prop) (w : World) (T : TypeId) (i : Nat) (l : LnV) : Prop where
  snaps : Row S w T esn l.sao l.scap l.snaps
  dead : Row S w 27 ept l.dao l.dcap l.dead
  inner : ∀ j x, j < i → l.snaps[j]? = some x → Row S w 27 ept x.ao x.cap x.dead
  ap1 : ∀ j x, j < i → l.snaps[j]? = some x → Ap x.ao l.dao
  ap2 : ∀ j k x y, j < k → k < i → l.snaps[j]? = some x → l.snaps[k]? = some y → Ap x.ao y.ao
abbrev LO (S : Nat → Prop) (w : World) (T : TypeId) (l : LnV) : Prop := LOi S w T l.snaps.length l
section
variable {S M : Nat → Prop} {w w' : World} {T : TypeId} {i : Nat} {l : LnV}
theorem LOi.chg (h : LOi S w T i l) (k : Chg M w w') (hd : ∀ b, b < w.heap.size → S b → M b → False) : LOi S w' T i l :=
  ⟨h.snaps.chg k hd, h.dead.chg k hd, fun j x hj hx => (h.inner j x hj hx).chg k hd, h.ap1, h.ap2⟩
theorem LOi.pure (h : LOi S w T i l) (k : Chg Nob w w') : LOi S w' T i l := h.chg k (fun _ _ _ x => x)
theorem LOi.mono {S' : Nat → Prop} (h : LOi S w T i l) (k : ∀ b, S b → S' b) : LOi S' w T i l :=
  ⟨h.snaps.mono k, h.dead.mono k, fun j x hj hx => (h.inner j x hj hx).mono k, h.ap1, h.ap2⟩
theorem LOi.lt (h : LOi S w T i l) : LOi (fun b => S b ∧ b < w.heap.size) w T i l :=
  ⟨h.snaps.lt, h.dead.lt, fun j x hj hx => (h.inner j x hj hx).lt, h.ap1, h.ap2⟩
theorem LOi.now (h : LOi S w T i l) : ∃ n1, n1 = w.heap.size ∧ LOi (fun b => S b ∧ b < n1) w T i l := ⟨_, rfl, h.lt⟩
theorem LOi.ls (h : LO S w T l) : LS S w l := ⟨h.snaps.rsl, h.dead.rsl, fun x hx => by
  obtain ⟨j, hj, rfl⟩ := List.getElem_of_mem hx
  exact (h.inner j _ hj (List.getElem?_eq_getElem hj)).rsl⟩
/-- one more of the snapshots' lists is the line's own -/
theorem LOi.store {n1 : Nat} (h : LOi (fun b => S b ∧ b < n1) w T i l) (hT : T ≠ 27) {x : SnV} (hx : l.snaps[i]? = some x) {ao : Option Addr} {c gs : Nat} (hsa : l.sao = some ⟨gs, 0, none⟩) (hr : Row (fun b => n1 ≤ b) w 27 ept ao c x.dead) (hS : ∀ b, n1 ≤ b → S b)
    (hR : Row (fun b => S b ∧ b < n1) w' T esn l.sao l.scap (l.snaps.set i ⟨x.txg, ao, c, x.dead⟩)) (k : Chg (· = gs) w w') : LOi S w' T (i + 1) { l with snaps := l.snaps.set i ⟨x.txg, ao, c, x.dead⟩ } := by
  have hi := (List.getElem?_eq_some_iff.1 hx).1
  have hk : kb w gs = some (some T) := (h.snaps.kb.at_ _ hsa).2
  have hd : ∀ b, b < w.heap.size → b = gs → kb w b ≠ some (some 27) := by
    rintro b _ rfl e
    rw [hk] at e
    injection e with e
    injection e with e
    exact hT e
  have old : ∀ j y, j < i → (l.snaps.set i ⟨x.txg, ao, c, x.dead⟩)[j]? = some y → l.snaps[j]? = some y := fun j y hj hy => by
    rw [List.getElem?_set_ne (by omega)] at hy
    exact hy
  have new : ∀ y, (l.snaps.set i ⟨x.txg, ao, c, x.dead⟩)[i]? = some y → y = ⟨x.txg, ao, c, x.dead⟩ := fun y hy => by
    rw [List.getElem?_set_self hi] at hy
    injection hy with hy
    exact hy.symm
  have apn : ∀ {S2 : Nat → Prop} {z : Option Addr}, At (fun b => S2 b ∧ b < n1) z → Ap z ao := fun hz => Ap.of hz hr.at_ (fun b h1 h2 => by omega)
  refine ⟨hR.mono (fun b hb => hb.1), (h.dead.chgK k hd).mono (fun b hb => hb.1), fun j y hj hy => ?_, fun j y hj hy => ?_, fun j m y z hj hm hy hz => ?_⟩
  · rcases Nat.lt_or_ge j i with h1 | h1
    · exact ((h.inner j y h1 (old j y h1 hy)).chgK k hd).mono (fun b hb => hb.1)
    · have e : j = i := by omega
      subst e
      rw [new y hy]
      exact (hr.chgK k hd).mono hS
  · rcases Nat.lt_or_ge j i with h1 | h1
    · exact h.ap1 j y h1 (old j y h1 hy)
    · have e : j = i := by omega
      subst e
      rw [new y hy]
      exact (apn h.dead.at_).symm
  · rcases Nat.lt_or_ge m i with h1 | h1
    · exact h.ap2 j m y z hj h1 (old j y (by omega) hy) (old m z h1 hz)
    · have e : m = i := by omega
      subst e
      rw [new z hz]
      exact apn (h.inner j y hj (old j y hj hy)).at_
end
theorem sn_set {ws : List SnV} {j : Nat} {x : SnV} (hx : ws[j]? = some x) (y : SnV) (hy : y.txg = x.txg) : (esn.all ws).take (0 + j * 2 + 1) ++ [.slice y.ao y.dead.length y.cap] ++ (esn.all ws).drop (0 + j * 2 + 1 + 1) = esn.all (ws.set j y) := by
  have hj := (List.getElem?_eq_some_iff.1 hx).1
  have hl : (esn.all (ws.take j)).length = j * 2 := by
    rw [Enc.all_len, List.length_take, Nat.min_eq_left (Nat.le_of_lt hj)]
    rfl
  have e1 : esn.all ws = esn.all (ws.take j) ++ ([vi x.txg, .slice x.ao x.dead.length x.cap] ++ esn.all (ws.drop (j + 1))) := by
    conv => lhs; rw [show ws = ws.take j ++ (x :: ws.drop (j + 1)) from by rw [← (List.getElem?_eq_some_iff.1 hx).2]; simp]
    rw [Enc.all_append]
    rfl
  have e2 : esn.all (ws.set j y) = esn.all (ws.take j) ++ ([vi y.txg, .slice y.ao y.dead.length y.cap] ++ esn.all (ws.drop (j + 1))) := by
    rw [List.set_eq_take_append_cons_drop, if_pos hj, Enc.all_append]
    rfl
  rw [e1, e2, hy, Nat.zero_add, ← hl, List.take_append, List.drop_append, List.take_of_length_le (Nat.le_add_right _ _), List.drop_eq_nil_of_le (show (esn.all (ws.take j)).length ≤ (esn.all (ws.take j)).length + 1 + 1 from by omega)]
  rw [show (esn.all (ws.take j)).length + 1 - (esn.all (ws.take j)).length = 1 from by omega, show (esn.all (ws.take j)).length + 1 + 1 - (esn.all (ws.take j)).length = 2 from by omega]
  simp
theorem sabs_set {xs : List SnV} {i : Nat} {x y : SnV} (hx : xs[i]? = some x) (h1 : y.txg = x.txg) (h2 : y.dead = x.dead) : sabs (xs.set i y) = sabs xs := by
  apply List.ext_getElem?
  intro j
  simp only [sabs, List.getElem?_map, List.getElem?_set]
  by_cases e : i = j
  · subst e
    obtain ⟨hlt, e2⟩ := List.getElem?_eq_some_iff.1 hx
    subst e2
    simp [hlt, h1, h2]
  · simp [e]
theorem lclone_calls {S : Nat → Prop} {w : World} {l : LnV} (h : LS S w l) (hs : Sm 60 l) : Calls Try.prog 30 [lval l].toArray w (Ret fun v w' => (∃ l', v = lval l' ∧ LO (w.heap.size ≤ ·) w' 65 l' ∧ l'.abs = l.abs) ∧ Chg Nob w w') := by
  have hw := Chg.refl Nob w
  have hsn := hs.snaps
  have hsd := hs.dead
  have lsn := h.snaps.cap
  replace h := h.old
  refine Calls.of_WC Try.func30 rfl Try.ntmps30 (by simp) ?_
  refine WC.seq (WC.region (?_))
  refine WL.box rfl rfl ?_
  intro g_1 w_1 hge_1 hlt_1 hb_1 k_1
  have zs_k_1 := k_1.size
  replace h := h.pure k_1
  replace hw := hw.pure k_1
  refine WL.alloc Try.zeroValue33 rfl ?_
  intro g_2 w_2 hge_2 hlt_2 hb_2 k_2
  have zs_k_2 := k_2.size
  replace h := h.pure k_2
  replace hw := hw.pure k_2
  replace hb_1 := hb_1.pure k_2
  refine WL.nil (WX.then_normal (WC.seq (WC.region (WL.fieldAddr (fld_33_2) rfl rfl (WL.loadB Try.isAgg23 hb_1 rfl rfl rfl (?_))))))
  refine WL.call eg_34 rfl rfl (pclone_calls h.dead (by omega)) ?_
  rintro v w2 ⟨⟨da, dc, rfl, hQ⟩, k2⟩
  have zs_k2 := k2.size
  replace h := h.pure k2
  replace hw := hw.pure k2
  replace hb_1 := hb_1.pure k2
  replace hb_2 := hb_2.pure k2
  replace hQ := hQ.mono (S' := fun x => w.heap.size ≤ x ∧ x ≠ g_1 ∧ x ≠ g_2) (fun x hx => by omega)
  refine WL.fieldAddr (fld_33_2) rfl rfl (?_)
  refine WL.store Try.sizeOf23 hb_1 rfl rfl rfl rfl ?_
  intro w_3 hs_3 hn_3 k_3
  have zs_k_3 := k_3.size
  replace h := h.chg k_3 (by first | (intro x h1 h2; exact h2) | (intro x h1 h2; have h3 : _ = _ := h2; exfalso; omega) | (intro b h1 h2 h3; have h4 : _ = _ := h3; (try dsimp only at h2); exfalso; omega) | (intro h1; have h2 : _ = _ := h1; exfalso; omega) | (intros; exfalso; (try dsimp only at *); omega))
  replace hw := hw.chg k_3 (by first | (intro x h1 h2; exact h2) | (intro x h1 h2; have h3 : _ = _ := h2; exfalso; omega) | (intro b h1 h2 h3; have h4 : _ = _ := h3; (try dsimp only at h2); exfalso; omega) | (intro h1; have h2 : _ = _ := h1; exfalso; omega) | (intros; exfalso; (try dsimp only at *); omega))
  replace hb_2 := hb_2.chg k_3 (by first | (intro x h1 h2; exact h2) | (intro x h1 h2; have h3 : _ = _ := h2; exfalso; omega) | (intro b h1 h2 h3; have h4 : _ = _ := h3; (try dsimp only at h2); exfalso; omega) | (intro h1; have h2 : _ = _ := h1; exfalso; omega) | (intros; exfalso; (try dsimp only at *); omega))
  replace hQ := hQ.chg k_3 (by first | (intro x h1 h2; exact h2) | (intro x h1 h2; have h3 : _ = _ := h2; exfalso; omega) | (intro b h1 h2 h3; have h4 : _ = _ := h3; (try dsimp only at h2); exfalso; omega) | (intro h1; have h2 : _ = _ := h1; exfalso; omega) | (intros; exfalso; (try dsimp only at *); omega))
  replace hb_1 := hn_3
  refine WL.nil (WX.then_normal (WC.seq (WC.region (?_))))
  have hb3 : Blk _ g_1 33 (lcells { l with dao := da, dcap := dc }) := hb_1
  refine WL.fieldAddr fld_33_1 rfl rfl ?_
  refine WL.loadB Try.isAgg31 hb3 rfl rfl rfl (?_)
  refine WL.call eg_35 rfl rfl (sclone_calls h.snaps (by show l.snaps.length ≤ _; omega)) ?_
  rintro v w4 ⟨⟨sa, sc, rfl, hW⟩, k4⟩
  have zs_k4 := k4.size
  replace h := h.pure k4
  replace hw := hw.pure k4
  replace hb_2 := hb_2.pure k4
  replace hQ := hQ.pure k4
  replace hb3 := hb3.pure k4
  replace hW := hW.mono (S' := fun x => w.heap.size ≤ x ∧ x ≠ g_1 ∧ x ≠ g_2) (fun x hx => by omega)
  refine WL.fieldAddr (fld_33_1) rfl rfl (?_)
  refine WL.store Try.sizeOf31 hb3 rfl rfl rfl rfl ?_
  intro w_4 hs_4 hn_4 k_4
  have zs_k_4 := k_4.size
  replace h := h.chg k_4 (by first | (intro x h1 h2; exact h2) | (intro x h1 h2; have h3 : _ = _ := h2; exfalso; omega) | (intro b h1 h2 h3; have h4 : _ = _ := h3; (try dsimp only at h2); exfalso; omega) | (intro h1; have h2 : _ = _ := h1; exfalso; omega) | (intros; exfalso; (try dsimp only at *); omega))
  replace hw := hw.chg k_4 (by first | (intro x h1 h2; exact h2) | (intro x h1 h2; have h3 : _ = _ := h2; exfalso; omega) | (intro b h1 h2 h3; have h4 : _ = _ := h3; (try dsimp only at h2); exfalso; omega) | (intro h1; have h2 : _ = _ := h1; exfalso; omega) | (intros; exfalso; (try dsimp only at *); omega))
  replace hb_2 := hb_2.chg k_4 (by first | (intro x h1 h2; exact h2) | (intro x h1 h2; have h3 : _ = _ := h2; exfalso; omega) | (intro b h1 h2 h3; have h4 : _ = _ := h3; (try dsimp only at h2); exfalso; omega) | (intro h1; have h2 : _ = _ := h1; exfalso; omega) | (intros; exfalso; (try dsimp only at *); omega))
  replace hQ := hQ.chg k_4 (by first | (intro x h1 h2; exact h2) | (intro x h1 h2; have h3 : _ = _ := h2; exfalso; omega) | (intro b h1 h2 h3; have h4 : _ = _ := h3; (try dsimp only at h2); exfalso; omega) | (intro h1; have h2 : _ = _ := h1; exfalso; omega) | (intros; exfalso; (try dsimp only at *); omega))
  replace hW := hW.chg k_4 (by first | (intro x h1 h2; exact h2) | (intro x h1 h2; have h3 : _ = _ := h2; exfalso; omega) | (intro b h1 h2 h3; have h4 : _ = _ := h3; (try dsimp only at h2); exfalso; omega) | (intro h1; have h2 : _ = _ := h1; exfalso; omega) | (intros; exfalso; (try dsimp only at *); omega))
  replace hb3 := hn_4
  refine WL.nil (WX.then_normal (WC.seq (WC.seq (WC.region (?_)))))
  have hb5 : Blk _ g_1 33 (lcells { l with dao := da, dcap := dc, sao := sa, scap := sc }) := hb3
  refine WL.fieldAddr fld_33_1 rfl rfl ?_
  refine WL.loadB Try.isAgg31 hb5 rfl rfl rfl (WL.len Try.underlying31 rfl rfl (WL.move rfl rfl (WL.nil (WX.then_normal (WC.block (?_))))))
  have hO : LOi (fun x => w.heap.size ≤ x ∧ x ≠ g_1 ∧ x ≠ g_2) _ 65 0 { l with dao := da, dcap := dc, sao := sa, scap := sc } := ⟨hW, hQ, fun j x hj => by omega, fun j x hj => by omega, fun j k x y hj hk => by omega⟩
  have lg1 := hb5.lt
  have lg2 := hb_2.lt
  refine WC.loop (σ := Nat × List SnV) (fun q => [(1, gptr g_1), (2, gptr g_2), (14, vi l.snaps.length), (15, vi (q.1 : Int))]) (fun q w' => (q.1 ≤ l.snaps.length ∧ q.2.length = l.snaps.length ∧ sabs q.2 = sabs l.snaps ∧ ∀ j, q.1 ≤ j → q.2[j]? = l.snaps[j]?) ∧ Blk w' g_1 33 (lcells { l with dao := da, dcap := dc, sao := sa, scap := sc, snaps := q.2 }) ∧ Blk w' g_2 33 (lcells ⟨0, none, 0, [], none, 0, []⟩) ∧ LS (· < w.heap.size) w' l ∧ Chg Nob w w' ∧ LOi (fun x => w.heap.size ≤ x ∧ x ≠ g_1 ∧ x ≠ g_2) w' 65 q.1 { l with dao := da, dcap := dc, sao := sa, scap := sc, snaps := q.2 }) (fun q => l.snaps.length - q.1) (0, l.snaps) ⟨rfl, rfl, rfl, rfl, trivial⟩ ⟨⟨Nat.zero_le _, rfl, rfl, fun _ _ => rfl⟩, hb5, hb_2, h, hw, hO⟩ ?_
  clear h hw hb5 hb_2 hQ hW hO
  rintro ⟨i, xs⟩ w1 ⟨⟨hi, hxl, hxa, hxs⟩, hb5, hb2, h, hw, hO⟩
  simp only at hi hxl hxa hxs hb5 hO
  dsimp only
  have lg1 := hb5.lt
  have lg2 := hb2.lt
  refine WC.seq (WC.region (?_))
  refine WL.lss? rfl rfl rfl (fun h16 => ?_) (fun h16 => ?_)
  ·
    refine WL.nil (WX.then_normal (WC.seq (WC.cond_true rfl (WC.skip (WX.then_normal (WC.seq (WC.block (?_))))))))
    refine WC.seq (WC.region (WL.move rfl rfl (WL.assign rfl rfl (WL.nil (WX.then_normal (?_))))))
    obtain ⟨x, hx⟩ : ∃ x, l.snaps[i]? = some x := ⟨_, List.getElem?_eq_getElem (by omega)⟩
    have hx2 : xs[i]? = some x := (hxs i (Nat.le_refl _)).trans hx
    have hxm := List.mem_of_getElem? hx
    have hxlt := (List.getElem?_eq_some_iff.1 hx2).1
    obtain ⟨gs, rfl⟩ : ∃ gs, sa = some ⟨gs, 0, none⟩ := hO.snaps.place0 hxlt
    have hgs := hO.snaps.at_ _ rfl
    have hgs1 : gs ≠ g_1 := hgs.2.1
    have hgs2 : gs ≠ g_2 := hgs.2.2
    have hgs3 : w.heap.size ≤ gs := hgs.1
    refine WC.draw ((fun x => x = gs)) [0, 1, 2, 3, 4, 5, 6, 7, 10, 11] [8, 9, 12] mixed rfl rfl (fun wd_5 kd_5 zd_5 => ?_)
    have zs_kd_5 := kd_5.size
    replace hb5 := hb5.pure kd_5
    replace hb2 := hb2.pure kd_5
    replace h := h.pure kd_5
    replace hw := hw.pure kd_5
    replace hO := hO.pure kd_5
    apply DQ.step (E' := [(1, _)])
    case ho => rfl
    case hs => exact ⟨rfl, trivial⟩
    case hk => rfl
    case h1 =>
      intro wq_7 kq_7
      refine WL.fieldAddr (fld_33_1) rfl rfl (?_)
      refine WL.nil ?_
      exact WX.one ⟨rfl, by first | exact Chg.refl _ _ | assumption⟩
    apply DQ.step (E' := [(18, _)])
    case ho => rfl
    case hs => exact ⟨rfl, trivial⟩
    case hk => rfl
    case h1 =>
      intro wq_8 kq_8
      have zs_kq_8 := kq_8.size
      replace hb5 := hb5.chg kq_8 (by first | (intro x h1 h2; exact h2) | (intro x h1 h2; have h3 : _ = _ := h2; exfalso; omega) | (intro b h1 h2 h3; have h4 : _ = _ := h3; (try dsimp only at h2); exfalso; omega) | (intro h1; have h2 : _ = _ := h1; exfalso; omega) | (intros; exfalso; (try dsimp only at *); omega))
      replace hb2 := hb2.chg kq_8 (by first | (intro x h1 h2; exact h2) | (intro x h1 h2; have h3 : _ = _ := h2; exfalso; omega) | (intro b h1 h2 h3; have h4 : _ = _ := h3; (try dsimp only at h2); exfalso; omega) | (intro h1; have h2 : _ = _ := h1; exfalso; omega) | (intros; exfalso; (try dsimp only at *); omega))
      replace h := h.chg kq_8 (by first | (intro x h1 h2; exact h2) | (intro x h1 h2; have h3 : _ = _ := h2; exfalso; omega) | (intro b h1 h2 h3; have h4 : _ = _ := h3; (try dsimp only at h2); exfalso; omega) | (intro h1; have h2 : _ = _ := h1; exfalso; omega) | (intros; exfalso; (try dsimp only at *); omega))
      replace hw := hw.chg kq_8 (by first | (intro x h1 h2; exact h2) | (intro x h1 h2; have h3 : _ = _ := h2; exfalso; omega) | (intro b h1 h2 h3; have h4 : _ = _ := h3; (try dsimp only at h2); exfalso; omega) | (intro h1; have h2 : _ = _ := h1; exfalso; omega) | (intros; exfalso; (try dsimp only at *); omega))
      refine WL.loadB Try.isAgg31 hb5 rfl rfl rfl (?_)
      refine WL.nil ?_
      exact WX.one ⟨rfl, by first | exact Chg.refl _ _ | assumption⟩
    apply DQ.step (E' := [(3, _)])
    case ho => rfl
    case hs => exact ⟨rfl, trivial⟩
    case hk => rfl
    case h1 =>
      intro wq_9 kq_9
      refine WL.move rfl rfl (?_)
      refine WL.nil ?_
      exact WX.one ⟨rfl, by first | exact Chg.refl _ _ | assumption⟩
    apply DQ.step (E' := [(1, _)])
    case ho => rfl
    case hs => exact ⟨rfl, trivial⟩
    case hk => rfl
    case h1 =>
      intro wq_10 kq_10
      refine WL.fieldAddr (fld_33_1) rfl rfl (?_)
      refine WL.nil ?_
      exact WX.one ⟨rfl, by first | exact Chg.refl _ _ | assumption⟩
    apply DQ.step (E' := [(21, _)])
    case ho => rfl
    case hs => exact ⟨rfl, trivial⟩
    case hk => rfl
    case h1 =>
      intro wq_11 kq_11
      have zs_kq_11 := kq_11.size
      replace hb5 := hb5.chg kq_11 (by first | (intro x h1 h2; exact h2) | (intro x h1 h2; have h3 : _ = _ := h2; exfalso; omega) | (intro b h1 h2 h3; have h4 : _ = _ := h3; (try dsimp only at h2); exfalso; omega) | (intro h1; have h2 : _ = _ := h1; exfalso; omega) | (intros; exfalso; (try dsimp only at *); omega))
      replace hb2 := hb2.chg kq_11 (by first | (intro x h1 h2; exact h2) | (intro x h1 h2; have h3 : _ = _ := h2; exfalso; omega) | (intro b h1 h2 h3; have h4 : _ = _ := h3; (try dsimp only at h2); exfalso; omega) | (intro h1; have h2 : _ = _ := h1; exfalso; omega) | (intros; exfalso; (try dsimp only at *); omega))
      replace h := h.chg kq_11 (by first | (intro x h1 h2; exact h2) | (intro x h1 h2; have h3 : _ = _ := h2; exfalso; omega) | (intro b h1 h2 h3; have h4 : _ = _ := h3; (try dsimp only at h2); exfalso; omega) | (intro h1; have h2 : _ = _ := h1; exfalso; omega) | (intros; exfalso; (try dsimp only at *); omega))
      replace hw := hw.chg kq_11 (by first | (intro x h1 h2; exact h2) | (intro x h1 h2; have h3 : _ = _ := h2; exfalso; omega) | (intro b h1 h2 h3; have h4 : _ = _ := h3; (try dsimp only at h2); exfalso; omega) | (intro h1; have h2 : _ = _ := h1; exfalso; omega) | (intros; exfalso; (try dsimp only at *); omega))
      refine WL.loadB Try.isAgg31 hb5 rfl rfl rfl (?_)
      refine WL.nil ?_
      exact WX.one ⟨rfl, by first | exact Chg.refl _ _ | assumption⟩
    apply DQ.step (E' := [(3, _)])
    case ho => rfl
    case hs => exact ⟨rfl, trivial⟩
    case hk => rfl
    case h1 =>
      intro wq_12 kq_12
      refine WL.move rfl rfl (?_)
      refine WL.nil ?_
      exact WX.one ⟨rfl, by first | exact Chg.refl _ _ | assumption⟩
    apply DQ.step (E' := [(22, _), (23, _)])
    case ho => rfl
    case hs => exact ⟨rfl, rfl, trivial⟩
    case hk => rfl
    case h1 =>
      intro wq_13 kq_13
      have zs_kq_13 := kq_13.size
      replace hb5 := hb5.chg kq_13 (by first | (intro x h1 h2; exact h2) | (intro x h1 h2; have h3 : _ = _ := h2; exfalso; omega) | (intro b h1 h2 h3; have h4 : _ = _ := h3; (try dsimp only at h2); exfalso; omega) | (intro h1; have h2 : _ = _ := h1; exfalso; omega) | (intros; exfalso; (try dsimp only at *); omega))
      replace hb2 := hb2.chg kq_13 (by first | (intro x h1 h2; exact h2) | (intro x h1 h2; have h3 : _ = _ := h2; exfalso; omega) | (intro b h1 h2 h3; have h4 : _ = _ := h3; (try dsimp only at h2); exfalso; omega) | (intro h1; have h2 : _ = _ := h1; exfalso; omega) | (intros; exfalso; (try dsimp only at *); omega))
      replace h := h.chg kq_13 (by first | (intro x h1 h2; exact h2) | (intro x h1 h2; have h3 : _ = _ := h2; exfalso; omega) | (intro b h1 h2 h3; have h4 : _ = _ := h3; (try dsimp only at h2); exfalso; omega) | (intro h1; have h2 : _ = _ := h1; exfalso; omega) | (intros; exfalso; (try dsimp only at *); omega))
      replace hw := hw.chg kq_13 (by first | (intro x h1 h2; exact h2) | (intro x h1 h2; have h3 : _ = _ := h2; exfalso; omega) | (intro b h1 h2 h3; have h4 : _ = _ := h3; (try dsimp only at h2); exfalso; omega) | (intro h1; have h2 : _ = _ := h1; exfalso; omega) | (intros; exfalso; (try dsimp only at *); omega))
      refine WL.index (j := i) Try.underlying31 Try.sizeOf65 rfl rfl rfl hxlt rfl ?_
      refine WL.nil ?_
      exact WX.one ⟨rfl, by first | exact Chg.refl _ _ | assumption⟩
    apply DQ.step (E' := [(24, _)])
    case ho => rfl
    case hs => exact ⟨rfl, trivial⟩
    case hk => rfl
    case h1 =>
      intro wq_14 kq_14
      refine WL.fieldAddr (fld_65_1) rfl rfl (?_)
      refine WL.nil ?_
      exact WX.one ⟨rfl, by first | exact Chg.refl _ _ | assumption⟩
    apply DQ.step (E' := [(19, _), (20, _)])
    case ho => rfl
    case hs => exact ⟨rfl, rfl, trivial⟩
    case hk => rfl
    case h1 =>
      intro wq_15 kq_15
      have zs_kq_15 := kq_15.size
      replace hb5 := hb5.chg kq_15 (by first | (intro x h1 h2; exact h2) | (intro x h1 h2; have h3 : _ = _ := h2; exfalso; omega) | (intro b h1 h2 h3; have h4 : _ = _ := h3; (try dsimp only at h2); exfalso; omega) | (intro h1; have h2 : _ = _ := h1; exfalso; omega) | (intros; exfalso; (try dsimp only at *); omega))
      replace hb2 := hb2.chg kq_15 (by first | (intro x h1 h2; exact h2) | (intro x h1 h2; have h3 : _ = _ := h2; exfalso; omega) | (intro b h1 h2 h3; have h4 : _ = _ := h3; (try dsimp only at h2); exfalso; omega) | (intro h1; have h2 : _ = _ := h1; exfalso; omega) | (intros; exfalso; (try dsimp only at *); omega))
      replace h := h.chg kq_15 (by first | (intro x h1 h2; exact h2) | (intro x h1 h2; have h3 : _ = _ := h2; exfalso; omega) | (intro b h1 h2 h3; have h4 : _ = _ := h3; (try dsimp only at h2); exfalso; omega) | (intro h1; have h2 : _ = _ := h1; exfalso; omega) | (intros; exfalso; (try dsimp only at *); omega))
      replace hw := hw.chg kq_15 (by first | (intro x h1 h2; exact h2) | (intro x h1 h2; have h3 : _ = _ := h2; exfalso; omega) | (intro b h1 h2 h3; have h4 : _ = _ := h3; (try dsimp only at h2); exfalso; omega) | (intro h1; have h2 : _ = _ := h1; exfalso; omega) | (intros; exfalso; (try dsimp only at *); omega))
      refine WL.index (j := i) Try.underlying31 Try.sizeOf65 rfl rfl rfl hxlt rfl ?_
      refine WL.nil ?_
      exact WX.one ⟨rfl, by first | exact Chg.refl _ _ | assumption⟩
    apply DQ.step (E' := [(28, _)])
    case ho => rfl
    case hs => exact ⟨rfl, trivial⟩
    case hk => rfl
    case h1 =>
      intro wq_16 kq_16
      refine WL.fieldAddr (fld_65_1) rfl rfl (?_)
      refine WL.nil ?_
      exact WX.one ⟨rfl, by first | exact Chg.refl _ _ | assumption⟩
    refine DQ.done (fun hd_6 => ?_)
    refine DL.step [(25, _)] rfl ⟨rfl, trivial⟩ rfl (fun wq_17 kq_17 => ?_)
    have zs_kq_17 := kq_17.size
    replace hb5 := hb5.pure kq_17
    replace hb2 := hb2.pure kq_17
    replace h := h.pure kq_17
    replace hw := hw.pure kq_17
    replace hO := hO.pure kq_17
    replace hd_6 := hd_6.pure kq_17
    refine WL.load Try.isAgg23 rfl (hO.snaps.rsl.cellsAt hx2 1 _ rfl) rfl ?_
    refine WL.nil ?_
    refine WX.one ⟨hd_6, ?_⟩
    refine DL.step [(26, _)] rfl ⟨rfl, trivial⟩ rfl (fun wq_18 kq_18 => ?_)
    have zs_kq_18 := kq_18.size
    replace hb5 := hb5.pure kq_18
    replace hb2 := hb2.pure kq_18
    replace h := h.pure kq_18
    replace hw := hw.pure kq_18
    replace hO := hO.pure kq_18
    replace hd_6 := hd_6.pure kq_18
    obtain ⟨n1, hn1, hO⟩ := hO.now
    refine WL.call eg_34 rfl rfl (pclone_calls (h.inner x hxm) (by have := hs.inner x hxm; omega)) ?_
    rintro v w6 ⟨⟨ia, ic, rfl, hI⟩, k6⟩
    have zs_k6 := k6.size
    replace hb5 := hb5.pure k6
    replace hb2 := hb2.pure k6
    replace h := h.pure k6
    replace hw := hw.pure k6
    replace hO := hO.pure k6
    replace hd_6 := hd_6.pure k6
    replace hI := hI.mono (S' := fun b => n1 ≤ b) (fun b hb => by omega)
    refine WL.nil ?_
    refine WX.one ⟨hd_6, ?_⟩
    refine DL.step [(29, _), (27, _)] rfl ⟨rfl, rfl, trivial⟩ rfl (fun wq_19 kq_19 => ?_)
    have zs_kq_19 := kq_19.size
    replace hb5 := hb5.pure kq_19
    replace hb2 := hb2.pure kq_19
    replace h := h.pure kq_19
    replace hw := hw.pure kq_19
    replace hO := hO.pure kq_19
    replace hd_6 := hd_6.pure kq_19
    replace hI := hI.pure kq_19
    refine WL.storeF (e := esn) (ys := xs.set i ⟨x.txg, ia, ic, x.dead⟩) Try.sizeOf23 hO.snaps rfl rfl rfl (by show 0 + i * 2 + 1 + 1 ≤ xs.length * 2; omega) (List.length_set ..) (sn_set hx2 ⟨x.txg, ia, ic, x.dead⟩ rfl) ?_
    intro w8 z8 hW8 k8
    have hO8 := LOi.store hO (by decide) hx2 rfl hI (fun b hb => ⟨by omega, by omega, by omega⟩) hW8 k8
    have zs_k8 := k8.size
    replace hb5 := hb5.chg k8 (by first | (intro x h1 h2; exact h2) | (intro x h1 h2; have h3 : _ = _ := h2; exfalso; omega) | (intro b h1 h2 h3; have h4 : _ = _ := h3; (try dsimp only at h2); exfalso; omega) | (intro h1; have h2 : _ = _ := h1; exfalso; omega) | (intros; exfalso; (try dsimp only at *); omega))
    replace hb2 := hb2.chg k8 (by first | (intro x h1 h2; exact h2) | (intro x h1 h2; have h3 : _ = _ := h2; exfalso; omega) | (intro b h1 h2 h3; have h4 : _ = _ := h3; (try dsimp only at h2); exfalso; omega) | (intro h1; have h2 : _ = _ := h1; exfalso; omega) | (intros; exfalso; (try dsimp only at *); omega))
    replace h := h.chg k8 (by first | (intro x h1 h2; exact h2) | (intro x h1 h2; have h3 : _ = _ := h2; exfalso; omega) | (intro b h1 h2 h3; have h4 : _ = _ := h3; (try dsimp only at h2); exfalso; omega) | (intro h1; have h2 : _ = _ := h1; exfalso; omega) | (intros; exfalso; (try dsimp only at *); omega))
    replace hw := hw.chg k8 (by first | (intro x h1 h2; exact h2) | (intro x h1 h2; have h3 : _ = _ := h2; exfalso; omega) | (intro b h1 h2 h3; have h4 : _ = _ := h3; (try dsimp only at h2); exfalso; omega) | (intro h1; have h2 : _ = _ := h1; exfalso; omega) | (intros; exfalso; (try dsimp only at *); omega))
    replace hd_6 := hd_6.chg k8 (by first | (intro x h1 h2; exact h2) | (intro x h1 h2; have h3 : _ = _ := h2; exfalso; omega) | (intro b h1 h2 h3; have h4 : _ = _ := h3; (try dsimp only at h2); exfalso; omega) | (intro h1; have h2 : _ = _ := h1; exfalso; omega) | (intros; exfalso; (try dsimp only at *); omega))
    refine WL.nil ?_
    refine WX.one0 (v := undef) ⟨hd_6, ?_⟩
    refine DL.done (fun we_20 ke_20 => ?_)
    have zs_ke_20 := ke_20.size
    replace hb5 := hb5.pure ke_20
    replace hb2 := hb2.pure ke_20
    replace h := h.pure ke_20
    replace hw := hw.pure ke_20
    replace hd_6 := hd_6.pure ke_20
    replace hO8 := hO8.pure ke_20
    refine WX.block_normal (WX.then_normal (WC.region (WL.add64 rfl rfl (by first | omega | (constructor <;> omega)) rfl (WL.move rfl rfl (WL.nil (?_))))))
    refine WX.loop_next (i + 1, xs.set i ⟨x.txg, ia, ic, x.dead⟩) ⟨rfl, rfl, rfl, rfl, trivial⟩ ⟨⟨by show i + 1 ≤ _; omega, by show (xs.set i _).length = _; rw [List.length_set, hxl], (sabs_set (y := ⟨x.txg, ia, ic, x.dead⟩) hx2 rfl rfl).trans hxa, fun j hj => ?_⟩, ?_, hb2, h, hw, hO8⟩ (by show l.snaps.length - (i + 1) < l.snaps.length - i; omega)
    ·
      have hj' : i + 1 ≤ j := hj
      show (xs.set i _)[j]? = _
      rw [List.getElem?_set_ne (by omega)]
      exact hxs j (by omega)
    ·
      have h9 : Blk _ g_1 33 [vi l.base, .slice (some ⟨gs, 0, none⟩) xs.length sc, .slice da l.dead.length dc] := hb5
      rw [show xs.length = (xs.set i ⟨x.txg, ia, ic, x.dead⟩).length from (List.length_set ..).symm] at h9
      exact h9
  ·
    refine WL.nil (WX.then_normal (WC.seq (WC.cond_false rfl (WC.exit (WX.then_exit (WX.then_exit (WX.block_here (?_))))))))
    refine WX.then_normal (WC.seq (WC.region (WL.loadsB Try.isAgg33 Try.sizeOf33 hb5 rfl (by first | (simp; done) | (simp; omega) | rfl) rfl (?_))))
    refine WL.stores Try.sizeOf33 hb2 rfl rfl (by first | (simp; done) | (simp; omega) | rfl) (by first | exact Enc.one _ _ | (intro u hu; obtain ⟨x, _, rfl⟩ := List.mem_map.1 hu; rfl) | (simp [Value.oneCell']; done) | (simp [Value.oneCell', Value.cells]; done)) (by first | (simp; done) | (simp; omega) | (simp [Value.cells]; done) | (simp [Value.cells]; omega) | exact Nat.le_of_ble_eq_true rfl) rfl ?_
    intro w_5 hs_5 hn_5 k_5
    have zs_k_5 := k_5.size
    replace hb5 := hb5.chg k_5 (by first | (intro x h1 h2; exact h2) | (intro x h1 h2; have h3 : _ = _ := h2; exfalso; omega) | (intro b h1 h2 h3; have h4 : _ = _ := h3; (try dsimp only at h2); exfalso; omega) | (intro h1; have h2 : _ = _ := h1; exfalso; omega) | (intros; exfalso; (try dsimp only at *); omega))
    replace h := h.chg k_5 (by first | (intro x h1 h2; exact h2) | (intro x h1 h2; have h3 : _ = _ := h2; exfalso; omega) | (intro b h1 h2 h3; have h4 : _ = _ := h3; (try dsimp only at h2); exfalso; omega) | (intro h1; have h2 : _ = _ := h1; exfalso; omega) | (intros; exfalso; (try dsimp only at *); omega))
    replace hw := hw.chg k_5 (by first | (intro x h1 h2; exact h2) | (intro x h1 h2; have h3 : _ = _ := h2; exfalso; omega) | (intro b h1 h2 h3; have h4 : _ = _ := h3; (try dsimp only at h2); exfalso; omega) | (intro h1; have h2 : _ = _ := h1; exfalso; omega) | (intros; exfalso; (try dsimp only at *); omega))
    replace hO := hO.chg k_5 (by first | (intro x h1 h2; exact h2) | (intro x h1 h2; have h3 : _ = _ := h2; exfalso; omega) | (intro b h1 h2 h3; have h4 : _ = _ := h3; (try dsimp only at h2); exfalso; omega) | (intro h1; have h2 : _ = _ := h1; exfalso; omega) | (intros; exfalso; (try dsimp only at *); omega))
    replace hb2 := hn_5
    refine WL.nil (WX.then_normal (WC.ret (?_)))
    refine WX.ret1c (.inl rfl) Try.results30 Try.isAgg33 Try.sizeOf33 hb2 rfl (by first | (simp; done) | (simp; omega) | rfl) ?_
    have hil : i = xs.length := by omega
    subst hil
    exact ⟨_, rfl, ⟨{ l with dao := da, dcap := dc, sao := sa, scap := sc, snaps := xs }, rfl, hO.mono (fun x hx => hx.1), by show LA.mk l.base (sabs xs) l.dead = LA.mk l.base (sabs l.snaps) l.dead; rw [hxa]⟩, hw⟩
end Go.Proofs.Ytgmkoieemmglpaa
