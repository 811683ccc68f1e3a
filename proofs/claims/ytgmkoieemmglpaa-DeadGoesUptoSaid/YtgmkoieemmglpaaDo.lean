import Derived.Test.YtgmkoieemmglpaaDk
import Derived.Test.YtgmkoieemmglpaaHy
namespace Go.Proofs.Ytgmkoieemmglpaa
open Go.RowKit Go.HL

/-! a snapshot is destroyed: the document's way -/
theorem szNow {M : Nat → Prop} {w w' : World} (_ : Chg M w w') : ∃ n, n = w'.heap.size := ⟨_, rfl⟩
theorem Row.neT {S S' : Nat → Prop} {w : World} {T : TypeId} (hT : T ≠ 27) {g c c2 : Nat} {xs : List SnV} {a : Option Addr} {ps : List PtV} (hs : Row S' w T esn (some ⟨g, 0, none⟩) c xs) (h : Row S w 27 ept a c2 ps) : Row (fun b => S b ∧ b ≠ g) w 27 ept a c2 ps := by
  have h1 : kb w g = some (some T) := (hs.kb.at_ _ rfl).2
  refine h.kb.mono (fun b hb => ⟨hb.1, fun e => ?_⟩)
  have h2 := hb.2
  rw [e, h1] at h2
  injection h2 with h2
  injection h2 with h2
  exact hT h2
/-- the lists of some snapshots, as they are read -/
structure InR (S : Nat → Prop) (w : World) (xs : List SnV) : Prop where
  all : ∀ x ∈ xs, RSl S w ept x.ao x.cap x.dead
theorem InR.chg {S M : Nat → Prop} {w w' : World} {xs : List SnV} (h : InR S w xs) (k : Chg M w w') (hd : ∀ b, b < w.heap.size → S b → M b → False) : InR S w' xs := ⟨fun x hx => (h.all x hx).chg k hd⟩
theorem InR.pure {S : Nat → Prop} {w w' : World} {xs : List SnV} (h : InR S w xs) (k : Chg Nob w w') : InR S w' xs := h.chg k (fun _ _ _ x => x)
/-- both lists, up to one place -/
theorem mix_at {α : Type} {full sn : List α} {j : Nat} (hl : full.length = sn.length) (hj : j < sn.length) : (full.take j ++ sn.drop j)[j]? = sn[j]? := by
  rw [List.getElem?_append_right (by rw [List.length_take]; omega), List.length_take, Nat.min_eq_left (by omega), Nat.sub_self, List.getElem?_drop]
  simp
theorem mix_set {α : Type} {full sn : List α} {j : Nat} (hl : full.length = sn.length) {y : α} (hy : full[j]? = some y) : (full.take j ++ sn.drop j).set j y = full.take (j + 1) ++ sn.drop (j + 1) := by
  have hj := (List.getElem?_eq_some_iff.1 hy).1
  have h1 : full.take (j + 1) = full.take j ++ [y] := by rw [List.take_add_one, hy]; rfl
  rw [h1, List.set_append, if_neg (by rw [List.length_take]; omega), List.length_take, Nat.min_eq_left (by omega), Nat.sub_self, List.append_assoc, List.drop_eq_getElem_cons (by omega)]
  rfl
theorem mix_same {α : Type} {full sn : List α} {j : Nat} (hl : full.length = sn.length) (hy : full[j]? = sn[j]?) (hj : j < sn.length) : full.take j ++ sn.drop j = full.take (j + 1) ++ sn.drop (j + 1) := by
  obtain ⟨y, h2⟩ : ∃ y, full[j]? = some y := ⟨_, List.getElem?_eq_getElem (by omega)⟩
  rw [← mix_set hl h2]
  have h3 : (full.take j ++ sn.drop j)[j]? = some y := by rw [mix_at hl hj, ← hy, h2]
  obtain ⟨h4, h5⟩ := List.getElem?_eq_some_iff.1 h3
  rw [← h5, List.set_getElem_self]
/-- those that stay -/
def outs {α : Type} (full : List α) (k j : Nat) : List α := (full.take j).take k ++ (full.take j).drop (k + 1)
theorem outs_ne {α : Type} {full : List α} {k j : Nat} {y : α} (hy : full[j]? = some y) (hk : j ≠ k) : outs full k (j + 1) = outs full k j ++ [y] := by
  have hj := (List.getElem?_eq_some_iff.1 hy).1
  have h1 : full.take (j + 1) = full.take j ++ [y] := by rw [List.take_add_one, hy]; rfl
  have hlj : (full.take j).length = j := by rw [List.length_take]; omega
  rw [outs, outs, h1]
  rcases Nat.lt_or_ge j k with h2 | h2
  · have e1 : (full.take j ++ [y]).take k = full.take j ++ [y] := List.take_of_length_le (by simp; omega)
    have e2 : (full.take j ++ [y]).drop (k + 1) = [] := List.drop_of_length_le (by simp; omega)
    have e3 : (full.take j).take k = full.take j := List.take_of_length_le (by omega)
    have e4 : (full.take j).drop (k + 1) = [] := List.drop_of_length_le (by omega)
    rw [e1, e2, e3, e4]
    simp
  · rw [List.take_append_of_le_length (by omega), List.drop_append_of_le_length (by omega), List.append_assoc]
theorem outs_eq {α : Type} {full : List α} {k : Nat} (hk : k < full.length) : outs full k (k + 1) = outs full k k := by
  have hlj : (full.take k).length = k := by rw [List.length_take]; omega
  rw [outs, outs, List.take_take, List.drop_of_length_le (l := full.take (k + 1)) (by rw [List.length_take]; omega), List.drop_of_length_le (l := full.take k) (by omega), List.take_take]
  congr 2
  omega
theorem outs_all {α : Type} {full : List α} {k : Nat} : outs full k full.length = full.take k ++ full.drop (k + 1) := by rw [outs, List.take_length]
theorem outs_len {α : Type} (full : List α) (k j : Nat) : (outs full k j).length ≤ full.length := by
  simp only [outs, List.length_append, List.length_take, List.length_drop]
  omega
theorem outs_mem {α : Type} {full : List α} {k j : Nat} {x : α} (h : x ∈ outs full k j) : x ∈ full := by
  rcases List.mem_append.1 h with h | h
  · exact List.mem_of_mem_take (List.mem_of_mem_take h)
  · exact List.mem_of_mem_take (List.mem_of_mem_drop h)
set_option maxHeartbeats 4000000 in
theorem DocDestroy_calls {S : Nat → Prop} {w : World} {l : LnV} (h : LS S w l) (hs : Sm 10 l) (k : Int) (hk : -9223372036854775808 ≤ k ∧ k ≤ 9223372036854775807) (hz : l.dead.length ≤ 1700000000000 ∧ ∀ x ∈ l.snaps, x.dead.length ≤ 1700000000000) :
    Calls Try.prog 18 [lval l, vi k].toArray w (Ret fun v w' => (∃ l' fao fc fr e, v = .tuple #[lval l', .slice fao fr.length fc, vi e] ∧ DestR l.abs k l'.abs fr e ∧ LS (w.heap.size ≤ ·) w' l' ∧ RSl (w.heap.size ≤ ·) w' ept fao fc fr) ∧ Chg Nob w w') := by
  have hw := Chg.refl Nob w
  have hsn := hs.snaps
  have hsd := hs.dead
  have hs6 : Sm 60 l := ⟨by omega, by omega, fun x hx => by have := hs.inner x hx; omega⟩
  have hs2 : Sm 20 l := ⟨by omega, by omega, fun x hx => by have := hs.inner x hx; omega⟩
  replace h := h.old
  refine Calls.of_WC Try.func18 rfl Try.ntmps18 (by simp) ?_
  refine WC.seq (WC.region (?_))
  refine WL.box rfl rfl ?_
  intro g_1 w_1 hge_1 hlt_1 hb_1 k_1
  have zs_k_1 := k_1.size
  replace h := h.pure k_1
  replace hw := hw.pure k_1
  refine WL.alloc Try.zeroValue25 rfl ?_
  intro g_2 w_2 hge_2 hlt_2 hb_2 k_2
  have zs_k_2 := k_2.size
  replace h := h.pure k_2
  replace hw := hw.pure k_2
  replace hb_1 := hb_1.pure k_2
  refine WL.assign rfl rfl (WL.assign rfl rfl (WL.nil (WX.then_normal (WC.seq (WC.seq (WC.region (WL.loadsB Try.isAgg25 Try.sizeOf25 hb_1 rfl (by first | (simp; done) | (simp; omega) | rfl) rfl (?_))))))))
  refine WL.call eg_11 rfl rfl (right_calls h hs6) ?_
  rintro v w2 ⟨⟨b, rfl, hb⟩, k2⟩
  have zs_k2 := k2.size
  replace h := h.pure k2
  replace hw := hw.pure k2
  replace hb_1 := hb_1.pure k2
  replace hb_2 := hb_2.pure k2
  rcases b with _ | _
  ·
    refine WL.not rfl rfl (WL.nil (WX.then_normal (WC.cond_true rfl (WC.seq (WC.region (WL.bld rfl (bld_25_z) rfl (?_)))))))
    refine WL.stores Try.sizeOf25 hb_2 rfl rfl (by first | (simp; done) | (simp; omega) | rfl) (by first | exact Enc.one _ _ | (intro u hu; obtain ⟨x, _, rfl⟩ := List.mem_map.1 hu; rfl) | (simp [Value.oneCell']; done) | (simp [Value.oneCell', Value.cells]; done)) (by first | (simp; done) | (simp; omega) | (simp [Value.cells]; done) | (simp [Value.cells]; omega) | exact Nat.le_of_ble_eq_true rfl) rfl ?_
    intro w_3 hs_3 hn_3 k_3
    have zs_k_3 := k_3.size
    replace h := h.chg k_3 (by first | (intro x h1 h2; exact h2) | (intro x h1 h2; have h3 : _ = _ := h2; subst h3; assumption) | (intro x h1 h2; have h3 : _ = _ := h2; exfalso; omega) | (intro b h1 h2 h3; have h4 : _ = _ := h3; (try dsimp only at h2); exfalso; omega) | (intro h1; have h2 : _ = _ := h1; exfalso; omega) | (intro h1; have h2 : _ ≤ _ := h1; exfalso; omega) | (intros; exfalso; (try dsimp only at *); omega) | (intro h1; exfalso; have h4 := h1.2; (try dsimp only at *); omega) | (intro x h1 h2; exact h2.1))
    replace hw := hw.chg k_3 (by first | (intro x h1 h2; exact h2) | (intro x h1 h2; have h3 : _ = _ := h2; subst h3; assumption) | (intro x h1 h2; have h3 : _ = _ := h2; exfalso; omega) | (intro b h1 h2 h3; have h4 : _ = _ := h3; (try dsimp only at h2); exfalso; omega) | (intro h1; have h2 : _ = _ := h1; exfalso; omega) | (intro h1; have h2 : _ ≤ _ := h1; exfalso; omega) | (intros; exfalso; (try dsimp only at *); omega) | (intro h1; exfalso; have h4 := h1.2; (try dsimp only at *); omega) | (intro x h1 h2; exact h2.1))
    replace hb_1 := hb_1.chg k_3 (by first | (intro x h1 h2; exact h2) | (intro x h1 h2; have h3 : _ = _ := h2; subst h3; assumption) | (intro x h1 h2; have h3 : _ = _ := h2; exfalso; omega) | (intro b h1 h2 h3; have h4 : _ = _ := h3; (try dsimp only at h2); exfalso; omega) | (intro h1; have h2 : _ = _ := h1; exfalso; omega) | (intro h1; have h2 : _ ≤ _ := h1; exfalso; omega) | (intros; exfalso; (try dsimp only at *); omega) | (intro h1; exfalso; have h4 := h1.2; (try dsimp only at *); omega) | (intro x h1 h2; exact h2.1))
    replace hb_2 := hn_3
    refine WL.assign rfl rfl (WL.assign rfl rfl (WL.nil (WX.then_normal (WC.ret (WX.then_ret (?_))))))
    refine WX.ret3c (.inl rfl) Try.results18 Try.isAgg25 Try.sizeOf25 hb_2 rfl (by first | (simp; done) | (simp; omega) | rfl) rfl rfl ?_
    first
      | exact ⟨_, rfl, ⟨⟨0, none, 0, [], none, 0, []⟩, none, 0, [], 2, rfl, .inl ⟨(fun hR => by have := hb.2 hR; cases this), rfl, rfl, rfl⟩, ⟨RSl.nil _ _ _ _ _, RSl.nil _ _ _ _ _, fun x hx => by cases hx⟩, RSl.nil _ _ _ _ _⟩, hw⟩
      | (have hh : k < 0 ∨ (l.abs.snaps.length : Int) ≤ k := by
           rw [show l.abs.snaps.length = l.snaps.length from sabs_len _]
           omega
         exact ⟨_, rfl, ⟨⟨0, none, 0, [], none, 0, []⟩, none, 0, [], 1, rfl, .inr (.inl ⟨hb.1 rfl, hh, rfl, rfl, rfl⟩), ⟨RSl.nil _ _ _ _ _, RSl.nil _ _ _ _ _, fun x hx => by cases hx⟩, RSl.nil _ _ _ _ _⟩, hw⟩)
      | (have h122' : (kk : Int) = (sn.length : Int) - 1 := h122
         obtain rfl : j = full.length := by omega
         rw [outs_all] at hOut hb12 ⊢
         rw [hah] at hst hfr
         obtain ⟨hx1, hn1, rfl⟩ : sn[kk + 1]? = none ∧ nl = de ∧ full = sn := by
           rcases hfull with ⟨x1, h1, _⟩ | h1
           ·
             have := (List.getElem?_eq_some_iff.1 h1).1
             omega
           ·
             exact h1
         rw [hn1, ← hds] at hst hfr
         obtain ⟨hd6, hn6⟩ := dest_B (L := l.abs) hsa.symm hx0 hx1 hst
         rw [hbs] at hd6
         refine ⟨_, rfl, ⟨⟨ba, oao, oc, full.take kk ++ full.drop (kk + 1), sao, sc2, st⟩, fao, fc, fr, 0, rfl, .inr (.inr ⟨hR, ?_, hd6, by rw [freeA, Int.toNat_natCast, hn6]; exact hfr, rfl⟩), ⟨hOut.rsl.mono (fun x hx => by have h1 := hx.1; omega), hSt.mono (fun x hx => hx.1.1), fun x hx => (hIn.all x (outs_mem (j := full.length) (k := kk) (by rw [outs_all]; exact hx))).mono (fun x hx => hx.1.1)⟩, hFr.mono (fun x hx => hx.1.1)⟩, hw⟩
         rw [show l.abs.snaps.length = l.snaps.length from sabs_len _]
         omega)
      | (have h122' : ¬ (kk : Int) = (sn.length : Int) - 1 := h122
         obtain rfl : j = full.length := by omega
         rw [outs_all] at hOut hb12 ⊢
         rw [hah] at hst hfr
         obtain ⟨x1, hx1, hn1, rfl⟩ : ∃ x1 : SnV, sn[kk + 1]? = some x1 ∧ nl = x1.dead ∧ full = sn.set (kk + 1) ⟨x1.txg, sao, sc2, st⟩ := by
           rcases hfull with h1 | ⟨h1, _⟩
           ·
             exact h1
           ·
             have := List.getElem?_eq_none_iff.1 h1
             omega
         rw [hn1] at hst hfr
         obtain ⟨hd6, hn6⟩ := dest_A (L := l.abs) hsa.symm hx0 hx1 hst sao sc2
         rw [hbs, hds] at hd6
         refine ⟨_, rfl, ⟨⟨ba, oao, oc, (sn.set (kk + 1) ⟨x1.txg, sao, sc2, st⟩).take kk ++ (sn.set (kk + 1) ⟨x1.txg, sao, sc2, st⟩).drop (kk + 1), da, dc, de⟩, fao, fc, fr, 0, rfl, .inr (.inr ⟨hR, ?_, hd6, by rw [freeA, Int.toNat_natCast, hn6]; exact hfr, rfl⟩), ⟨hOut.rsl.mono (fun x hx => by have h1 := hx.1; omega), hDe.mono (fun x hx => hx.1.1), fun x hx => (hIn.all x (outs_mem (j := (sn.set (kk + 1) ⟨x1.txg, sao, sc2, st⟩).length) (k := kk) (by rw [outs_all]; exact hx))).mono (fun x hx => hx.1.1)⟩, hFr.mono (fun x hx => hx.1.1)⟩, hw⟩
         rw [show l.abs.snaps.length = l.snaps.length from sabs_len _]
         omega)
  ·
    refine WL.not rfl rfl (WL.nil (WX.then_normal (WC.cond_false rfl (WC.skip (WX.then_normal (WC.seq (WC.seq (?_))))))))
    refine WC.region (WL.move rfl rfl (?_))
    refine WL.lss? rfl rfl rfl (fun h19 => ?_) (fun h19 => ?_)
    ·
      refine WL.move rfl rfl (WL.pass rfl rfl rfl rfl (WL.pass rfl rfl rfl rfl (WL.pass rfl rfl rfl rfl (WL.pass rfl rfl rfl rfl (WL.pass rfl rfl rfl rfl (WL.pickT rfl rfl rfl (WL.nil (?_))))))))
      refine WX.then_normal (WC.cond_true rfl (WC.seq (WC.region (WL.bld rfl (bld_25_z) rfl (?_)))))
      refine WL.stores Try.sizeOf25 hb_2 rfl rfl (by first | (simp; done) | (simp; omega) | rfl) (by first | exact Enc.one _ _ | (intro u hu; obtain ⟨x, _, rfl⟩ := List.mem_map.1 hu; rfl) | (simp [Value.oneCell']; done) | (simp [Value.oneCell', Value.cells]; done)) (by first | (simp; done) | (simp; omega) | (simp [Value.cells]; done) | (simp [Value.cells]; omega) | exact Nat.le_of_ble_eq_true rfl) rfl ?_
      intro w_3 hs_3 hn_3 k_3
      have zs_k_3 := k_3.size
      replace h := h.chg k_3 (by first | (intro x h1 h2; exact h2) | (intro x h1 h2; have h3 : _ = _ := h2; subst h3; assumption) | (intro x h1 h2; have h3 : _ = _ := h2; exfalso; omega) | (intro b h1 h2 h3; have h4 : _ = _ := h3; (try dsimp only at h2); exfalso; omega) | (intro h1; have h2 : _ = _ := h1; exfalso; omega) | (intro h1; have h2 : _ ≤ _ := h1; exfalso; omega) | (intros; exfalso; (try dsimp only at *); omega) | (intro h1; exfalso; have h4 := h1.2; (try dsimp only at *); omega) | (intro x h1 h2; exact h2.1))
      replace hw := hw.chg k_3 (by first | (intro x h1 h2; exact h2) | (intro x h1 h2; have h3 : _ = _ := h2; subst h3; assumption) | (intro x h1 h2; have h3 : _ = _ := h2; exfalso; omega) | (intro b h1 h2 h3; have h4 : _ = _ := h3; (try dsimp only at h2); exfalso; omega) | (intro h1; have h2 : _ = _ := h1; exfalso; omega) | (intro h1; have h2 : _ ≤ _ := h1; exfalso; omega) | (intros; exfalso; (try dsimp only at *); omega) | (intro h1; exfalso; have h4 := h1.2; (try dsimp only at *); omega) | (intro x h1 h2; exact h2.1))
      replace hb_1 := hb_1.chg k_3 (by first | (intro x h1 h2; exact h2) | (intro x h1 h2; have h3 : _ = _ := h2; subst h3; assumption) | (intro x h1 h2; have h3 : _ = _ := h2; exfalso; omega) | (intro b h1 h2 h3; have h4 : _ = _ := h3; (try dsimp only at h2); exfalso; omega) | (intro h1; have h2 : _ = _ := h1; exfalso; omega) | (intro h1; have h2 : _ ≤ _ := h1; exfalso; omega) | (intros; exfalso; (try dsimp only at *); omega) | (intro h1; exfalso; have h4 := h1.2; (try dsimp only at *); omega) | (intro x h1 h2; exact h2.1))
      replace hb_2 := hn_3
      refine WL.assign rfl rfl (WL.assign rfl rfl (WL.nil (WX.then_normal (WC.ret (WX.then_ret (?_))))))
      refine WX.ret3c (.inl rfl) Try.results18 Try.isAgg25 Try.sizeOf25 hb_2 rfl (by first | (simp; done) | (simp; omega) | rfl) rfl rfl ?_
      first
        | exact ⟨_, rfl, ⟨⟨0, none, 0, [], none, 0, []⟩, none, 0, [], 2, rfl, .inl ⟨(fun hR => by have := hb.2 hR; cases this), rfl, rfl, rfl⟩, ⟨RSl.nil _ _ _ _ _, RSl.nil _ _ _ _ _, fun x hx => by cases hx⟩, RSl.nil _ _ _ _ _⟩, hw⟩
        | (have hh : k < 0 ∨ (l.abs.snaps.length : Int) ≤ k := by
             rw [show l.abs.snaps.length = l.snaps.length from sabs_len _]
             omega
           exact ⟨_, rfl, ⟨⟨0, none, 0, [], none, 0, []⟩, none, 0, [], 1, rfl, .inr (.inl ⟨hb.1 rfl, hh, rfl, rfl, rfl⟩), ⟨RSl.nil _ _ _ _ _, RSl.nil _ _ _ _ _, fun x hx => by cases hx⟩, RSl.nil _ _ _ _ _⟩, hw⟩)
        | (have h122' : (kk : Int) = (sn.length : Int) - 1 := h122
           obtain rfl : j = full.length := by omega
           rw [outs_all] at hOut hb12 ⊢
           rw [hah] at hst hfr
           obtain ⟨hx1, hn1, rfl⟩ : sn[kk + 1]? = none ∧ nl = de ∧ full = sn := by
             rcases hfull with ⟨x1, h1, _⟩ | h1
             ·
               have := (List.getElem?_eq_some_iff.1 h1).1
               omega
             ·
               exact h1
           rw [hn1, ← hds] at hst hfr
           obtain ⟨hd6, hn6⟩ := dest_B (L := l.abs) hsa.symm hx0 hx1 hst
           rw [hbs] at hd6
           refine ⟨_, rfl, ⟨⟨ba, oao, oc, full.take kk ++ full.drop (kk + 1), sao, sc2, st⟩, fao, fc, fr, 0, rfl, .inr (.inr ⟨hR, ?_, hd6, by rw [freeA, Int.toNat_natCast, hn6]; exact hfr, rfl⟩), ⟨hOut.rsl.mono (fun x hx => by have h1 := hx.1; omega), hSt.mono (fun x hx => hx.1.1), fun x hx => (hIn.all x (outs_mem (j := full.length) (k := kk) (by rw [outs_all]; exact hx))).mono (fun x hx => hx.1.1)⟩, hFr.mono (fun x hx => hx.1.1)⟩, hw⟩
           rw [show l.abs.snaps.length = l.snaps.length from sabs_len _]
           omega)
        | (have h122' : ¬ (kk : Int) = (sn.length : Int) - 1 := h122
           obtain rfl : j = full.length := by omega
           rw [outs_all] at hOut hb12 ⊢
           rw [hah] at hst hfr
           obtain ⟨x1, hx1, hn1, rfl⟩ : ∃ x1 : SnV, sn[kk + 1]? = some x1 ∧ nl = x1.dead ∧ full = sn.set (kk + 1) ⟨x1.txg, sao, sc2, st⟩ := by
             rcases hfull with h1 | ⟨h1, _⟩
             ·
               exact h1
             ·
               have := List.getElem?_eq_none_iff.1 h1
               omega
           rw [hn1] at hst hfr
           obtain ⟨hd6, hn6⟩ := dest_A (L := l.abs) hsa.symm hx0 hx1 hst sao sc2
           rw [hbs, hds] at hd6
           refine ⟨_, rfl, ⟨⟨ba, oao, oc, (sn.set (kk + 1) ⟨x1.txg, sao, sc2, st⟩).take kk ++ (sn.set (kk + 1) ⟨x1.txg, sao, sc2, st⟩).drop (kk + 1), da, dc, de⟩, fao, fc, fr, 0, rfl, .inr (.inr ⟨hR, ?_, hd6, by rw [freeA, Int.toNat_natCast, hn6]; exact hfr, rfl⟩), ⟨hOut.rsl.mono (fun x hx => by have h1 := hx.1; omega), hDe.mono (fun x hx => hx.1.1), fun x hx => (hIn.all x (outs_mem (j := (sn.set (kk + 1) ⟨x1.txg, sao, sc2, st⟩).length) (k := kk) (by rw [outs_all]; exact hx))).mono (fun x hx => hx.1.1)⟩, hFr.mono (fun x hx => hx.1.1)⟩, hw⟩
           rw [show l.abs.snaps.length = l.snaps.length from sabs_len _]
           omega)
    ·
      refine WL.move rfl rfl (WL.want rfl rfl rfl (WL.move rfl rfl (WL.want rfl rfl rfl (WL.fieldAddr (fld_25_1) rfl rfl (WL.want rfl rfl rfl (WL.loadB Try.isAgg22 hb_1 rfl rfl rfl (WL.want rfl rfl rfl (?_))))))))
      refine WL.len Try.underlying22 rfl rfl (WL.want rfl rfl rfl (?_))
      refine WL.geq? rfl rfl rfl (fun h25 => ?_) (fun h25 => ?_)
      ·
        refine WL.pickF rfl rfl rfl (WL.nil (WX.then_normal (WC.cond_true rfl (WC.seq (WC.region (WL.bld rfl (bld_25_z) rfl (?_)))))))
        refine WL.stores Try.sizeOf25 hb_2 rfl rfl (by first | (simp; done) | (simp; omega) | rfl) (by first | exact Enc.one _ _ | (intro u hu; obtain ⟨x, _, rfl⟩ := List.mem_map.1 hu; rfl) | (simp [Value.oneCell']; done) | (simp [Value.oneCell', Value.cells]; done)) (by first | (simp; done) | (simp; omega) | (simp [Value.cells]; done) | (simp [Value.cells]; omega) | exact Nat.le_of_ble_eq_true rfl) rfl ?_
        intro w_3 hs_3 hn_3 k_3
        have zs_k_3 := k_3.size
        replace h := h.chg k_3 (by first | (intro x h1 h2; exact h2) | (intro x h1 h2; have h3 : _ = _ := h2; subst h3; assumption) | (intro x h1 h2; have h3 : _ = _ := h2; exfalso; omega) | (intro b h1 h2 h3; have h4 : _ = _ := h3; (try dsimp only at h2); exfalso; omega) | (intro h1; have h2 : _ = _ := h1; exfalso; omega) | (intro h1; have h2 : _ ≤ _ := h1; exfalso; omega) | (intros; exfalso; (try dsimp only at *); omega) | (intro h1; exfalso; have h4 := h1.2; (try dsimp only at *); omega) | (intro x h1 h2; exact h2.1))
        replace hw := hw.chg k_3 (by first | (intro x h1 h2; exact h2) | (intro x h1 h2; have h3 : _ = _ := h2; subst h3; assumption) | (intro x h1 h2; have h3 : _ = _ := h2; exfalso; omega) | (intro b h1 h2 h3; have h4 : _ = _ := h3; (try dsimp only at h2); exfalso; omega) | (intro h1; have h2 : _ = _ := h1; exfalso; omega) | (intro h1; have h2 : _ ≤ _ := h1; exfalso; omega) | (intros; exfalso; (try dsimp only at *); omega) | (intro h1; exfalso; have h4 := h1.2; (try dsimp only at *); omega) | (intro x h1 h2; exact h2.1))
        replace hb_1 := hb_1.chg k_3 (by first | (intro x h1 h2; exact h2) | (intro x h1 h2; have h3 : _ = _ := h2; subst h3; assumption) | (intro x h1 h2; have h3 : _ = _ := h2; exfalso; omega) | (intro b h1 h2 h3; have h4 : _ = _ := h3; (try dsimp only at h2); exfalso; omega) | (intro h1; have h2 : _ = _ := h1; exfalso; omega) | (intro h1; have h2 : _ ≤ _ := h1; exfalso; omega) | (intros; exfalso; (try dsimp only at *); omega) | (intro h1; exfalso; have h4 := h1.2; (try dsimp only at *); omega) | (intro x h1 h2; exact h2.1))
        replace hb_2 := hn_3
        refine WL.assign rfl rfl (WL.assign rfl rfl (WL.nil (WX.then_normal (WC.ret (WX.then_ret (?_))))))
        refine WX.ret3c (.inl rfl) Try.results18 Try.isAgg25 Try.sizeOf25 hb_2 rfl (by first | (simp; done) | (simp; omega) | rfl) rfl rfl ?_
        first
          | exact ⟨_, rfl, ⟨⟨0, none, 0, [], none, 0, []⟩, none, 0, [], 2, rfl, .inl ⟨(fun hR => by have := hb.2 hR; cases this), rfl, rfl, rfl⟩, ⟨RSl.nil _ _ _ _ _, RSl.nil _ _ _ _ _, fun x hx => by cases hx⟩, RSl.nil _ _ _ _ _⟩, hw⟩
          | (have hh : k < 0 ∨ (l.abs.snaps.length : Int) ≤ k := by
               rw [show l.abs.snaps.length = l.snaps.length from sabs_len _]
               omega
             exact ⟨_, rfl, ⟨⟨0, none, 0, [], none, 0, []⟩, none, 0, [], 1, rfl, .inr (.inl ⟨hb.1 rfl, hh, rfl, rfl, rfl⟩), ⟨RSl.nil _ _ _ _ _, RSl.nil _ _ _ _ _, fun x hx => by cases hx⟩, RSl.nil _ _ _ _ _⟩, hw⟩)
          | (have h122' : (kk : Int) = (sn.length : Int) - 1 := h122
             obtain rfl : j = full.length := by omega
             rw [outs_all] at hOut hb12 ⊢
             rw [hah] at hst hfr
             obtain ⟨hx1, hn1, rfl⟩ : sn[kk + 1]? = none ∧ nl = de ∧ full = sn := by
               rcases hfull with ⟨x1, h1, _⟩ | h1
               ·
                 have := (List.getElem?_eq_some_iff.1 h1).1
                 omega
               ·
                 exact h1
             rw [hn1, ← hds] at hst hfr
             obtain ⟨hd6, hn6⟩ := dest_B (L := l.abs) hsa.symm hx0 hx1 hst
             rw [hbs] at hd6
             refine ⟨_, rfl, ⟨⟨ba, oao, oc, full.take kk ++ full.drop (kk + 1), sao, sc2, st⟩, fao, fc, fr, 0, rfl, .inr (.inr ⟨hR, ?_, hd6, by rw [freeA, Int.toNat_natCast, hn6]; exact hfr, rfl⟩), ⟨hOut.rsl.mono (fun x hx => by have h1 := hx.1; omega), hSt.mono (fun x hx => hx.1.1), fun x hx => (hIn.all x (outs_mem (j := full.length) (k := kk) (by rw [outs_all]; exact hx))).mono (fun x hx => hx.1.1)⟩, hFr.mono (fun x hx => hx.1.1)⟩, hw⟩
             rw [show l.abs.snaps.length = l.snaps.length from sabs_len _]
             omega)
          | (have h122' : ¬ (kk : Int) = (sn.length : Int) - 1 := h122
             obtain rfl : j = full.length := by omega
             rw [outs_all] at hOut hb12 ⊢
             rw [hah] at hst hfr
             obtain ⟨x1, hx1, hn1, rfl⟩ : ∃ x1 : SnV, sn[kk + 1]? = some x1 ∧ nl = x1.dead ∧ full = sn.set (kk + 1) ⟨x1.txg, sao, sc2, st⟩ := by
               rcases hfull with h1 | ⟨h1, _⟩
               ·
                 exact h1
               ·
                 have := List.getElem?_eq_none_iff.1 h1
                 omega
             rw [hn1] at hst hfr
             obtain ⟨hd6, hn6⟩ := dest_A (L := l.abs) hsa.symm hx0 hx1 hst sao sc2
             rw [hbs, hds] at hd6
             refine ⟨_, rfl, ⟨⟨ba, oao, oc, (sn.set (kk + 1) ⟨x1.txg, sao, sc2, st⟩).take kk ++ (sn.set (kk + 1) ⟨x1.txg, sao, sc2, st⟩).drop (kk + 1), da, dc, de⟩, fao, fc, fr, 0, rfl, .inr (.inr ⟨hR, ?_, hd6, by rw [freeA, Int.toNat_natCast, hn6]; exact hfr, rfl⟩), ⟨hOut.rsl.mono (fun x hx => by have h1 := hx.1; omega), hDe.mono (fun x hx => hx.1.1), fun x hx => (hIn.all x (outs_mem (j := (sn.set (kk + 1) ⟨x1.txg, sao, sc2, st⟩).length) (k := kk) (by rw [outs_all]; exact hx))).mono (fun x hx => hx.1.1)⟩, hFr.mono (fun x hx => hx.1.1)⟩, hw⟩
             rw [show l.abs.snaps.length = l.snaps.length from sabs_len _]
             omega)
      ·
        refine WL.pickF rfl rfl rfl (WL.nil (WX.then_normal (WC.cond_false rfl (WC.skip (WX.then_normal (WC.seq (WC.region (?_))))))))
        refine WL.loadsB Try.isAgg25 Try.sizeOf25 hb_1 rfl (by first | (simp; done) | (simp; omega) | rfl) rfl (?_)
        have hR : l.abs.Right := hb.1 rfl
        refine WL.call eg_29 rfl rfl (copy_calls h hs2) ?_
        rintro v w3 ⟨⟨⟨ba, sa, sc, sn, da, dc, de⟩, rfl, hO, ha⟩, k3⟩
        have hll : sn.length = l.snaps.length := abs_len ha
        have hld : de = l.dead := abs_dead ha
        have hsa : sabs sn = sabs l.snaps := congrArg LA.snaps ha
        obtain ⟨kk, rfl⟩ : ∃ kk : Nat, k = (kk : Int) := ⟨k.toNat, by omega⟩
        have zs_k3 := k3.size
        replace h := h.pure k3
        replace hw := hw.pure k3
        replace hb_1 := hb_1.pure k3
        replace hb_2 := hb_2.pure k3
        replace hO := LOi.mono (S' := fun x => w.heap.size ≤ x ∧ x ≠ g_1 ∧ x ≠ g_2) hO (fun x hx => by omega)
        replace hO := hO.lt
        have hkl : kk < sn.length := by omega
        obtain ⟨x0, hx0⟩ : ∃ x0, sn[kk]? = some x0 := ⟨_, List.getElem?_eq_getElem hkl⟩
        obtain ⟨gs, rfl⟩ : ∃ gs, sa = some ⟨gs, 0, none⟩ := hO.snaps.place0 (j := kk) hkl
        have hzs : ∀ x ∈ sn, x.dead.length ≤ 1700000000000 := fun x hx => by
          have h1 : (x.txg, x.dead) ∈ sabs sn := List.mem_map.2 ⟨x, hx, rfl⟩
          rw [hsa] at h1
          obtain ⟨y, hy, e1⟩ := List.mem_map.1 h1
          injection e1 with e1 e2
          rw [← e2]
          exact hz.2 y hy
        have hzx := hzs x0 (List.mem_of_getElem? hx0)
        refine WL.alloc Try.zeroValue25 rfl ?_
        intro g7 w7 hge7 hlt7 hb7 k7
        have zs_k7 := k7.size
        replace h := h.pure k7
        replace hw := hw.pure k7
        replace hb_1 := hb_1.pure k7
        replace hb_2 := hb_2.pure k7
        replace hO := hO.pure k7
        refine WL.stores Try.sizeOf25 hb7 rfl rfl (by first | (simp; done) | (simp; omega) | rfl) (by first | exact Enc.one _ _ | (intro u hu; obtain ⟨x, _, rfl⟩ := List.mem_map.1 hu; rfl) | (simp [Value.oneCell']; done) | (simp [Value.oneCell', Value.cells]; done)) (by first | (simp; done) | (simp; omega) | (simp [Value.cells]; done) | (simp [Value.cells]; omega) | exact Nat.le_of_ble_eq_true rfl) rfl ?_
        intro w_3 hs_3 hn_3 k_3
        have zs_k_3 := k_3.size
        replace h := h.chg k_3 (by first | (intro x h1 h2; exact h2) | (intro x h1 h2; have h3 : _ = _ := h2; subst h3; assumption) | (intro x h1 h2; have h3 : _ = _ := h2; exfalso; omega) | (intro b h1 h2 h3; have h4 : _ = _ := h3; (try dsimp only at h2); exfalso; omega) | (intro h1; have h2 : _ = _ := h1; exfalso; omega) | (intro h1; have h2 : _ ≤ _ := h1; exfalso; omega) | (intros; exfalso; (try dsimp only at *); omega) | (intro h1; exfalso; have h4 := h1.2; (try dsimp only at *); omega) | (intro x h1 h2; exact h2.1))
        replace hw := hw.chg k_3 (by first | (intro x h1 h2; exact h2) | (intro x h1 h2; have h3 : _ = _ := h2; subst h3; assumption) | (intro x h1 h2; have h3 : _ = _ := h2; exfalso; omega) | (intro b h1 h2 h3; have h4 : _ = _ := h3; (try dsimp only at h2); exfalso; omega) | (intro h1; have h2 : _ = _ := h1; exfalso; omega) | (intro h1; have h2 : _ ≤ _ := h1; exfalso; omega) | (intros; exfalso; (try dsimp only at *); omega) | (intro h1; exfalso; have h4 := h1.2; (try dsimp only at *); omega) | (intro x h1 h2; exact h2.1))
        replace hb_1 := hb_1.chg k_3 (by first | (intro x h1 h2; exact h2) | (intro x h1 h2; have h3 : _ = _ := h2; subst h3; assumption) | (intro x h1 h2; have h3 : _ = _ := h2; exfalso; omega) | (intro b h1 h2 h3; have h4 : _ = _ := h3; (try dsimp only at h2); exfalso; omega) | (intro h1; have h2 : _ = _ := h1; exfalso; omega) | (intro h1; have h2 : _ ≤ _ := h1; exfalso; omega) | (intros; exfalso; (try dsimp only at *); omega) | (intro h1; exfalso; have h4 := h1.2; (try dsimp only at *); omega) | (intro x h1 h2; exact h2.1))
        replace hb_2 := hb_2.chg k_3 (by first | (intro x h1 h2; exact h2) | (intro x h1 h2; have h3 : _ = _ := h2; subst h3; assumption) | (intro x h1 h2; have h3 : _ = _ := h2; exfalso; omega) | (intro b h1 h2 h3; have h4 : _ = _ := h3; (try dsimp only at h2); exfalso; omega) | (intro h1; have h2 : _ = _ := h1; exfalso; omega) | (intro h1; have h2 : _ ≤ _ := h1; exfalso; omega) | (intros; exfalso; (try dsimp only at *); omega) | (intro h1; exfalso; have h4 := h1.2; (try dsimp only at *); omega) | (intro x h1 h2; exact h2.1))
        replace hO := hO.chg k_3 (by first | (intro x h1 h2; exact h2) | (intro x h1 h2; have h3 : _ = _ := h2; subst h3; assumption) | (intro x h1 h2; have h3 : _ = _ := h2; exfalso; omega) | (intro b h1 h2 h3; have h4 : _ = _ := h3; (try dsimp only at h2); exfalso; omega) | (intro h1; have h2 : _ = _ := h1; exfalso; omega) | (intro h1; have h2 : _ ≤ _ := h1; exfalso; omega) | (intros; exfalso; (try dsimp only at *); omega) | (intro h1; exfalso; have h4 := h1.2; (try dsimp only at *); omega) | (intro x h1 h2; exact h2.1))
        replace hb7 := hn_3
        refine WL.nil (WX.then_normal (WC.seq (WC.region (?_))))
        have hb7' : Blk _ g7 25 [vi ba, .slice (some ⟨gs, 0, none⟩) sn.length sc, .slice da de.length dc] := hb7
        have hb1' : Blk _ g_1 25 (lcells l) := hb_1
        have hb2' : Blk _ g_2 25 (lcells ⟨0, none, 0, [], none, 0, []⟩) := hb_2
        refine WL.fieldAddr fld_25_2 rfl rfl ?_
        refine WL.loadB Try.isAgg23 hb7' rfl rfl rfl (WL.assign rfl rfl (WL.nil (WX.then_normal (WC.seq (WC.seq (WC.region (WL.move rfl rfl (?_))))))))
        refine WL.fieldAddr (fld_25_1) rfl rfl (WL.loadB Try.isAgg22 hb7' rfl rfl rfl (WL.len Try.underlying22 rfl rfl (WL.sub64 rfl rfl (by first | omega | (constructor <;> omega)) rfl (?_))))
        refine WL.lss rfl rfl rfl ?_
        refine WL.nil (WX.then_normal (?_))
        refine WC.cutR (σ := Option Addr × Nat × List PtV) (fun s => [(1, vi (kk : Int)), (2, gptr g_1), (4, gptr g_2), (7, gptr g7), (8, .slice s.1 s.2.2.length s.2.1)]) (fun s w' => ((∃ x1 : SnV, sn[kk + 1]? = some x1 ∧ s.1 = x1.ao ∧ s.2.1 = x1.cap ∧ s.2.2 = x1.dead) ∨ (sn[kk + 1]? = none ∧ s.1 = da ∧ s.2.1 = dc ∧ s.2.2 = de)) ∧ Blk w' g7 25 [vi ba, .slice (some ⟨gs, 0, none⟩) sn.length sc, .slice da de.length dc] ∧ Blk w' g_1 25 (lcells l) ∧ Blk w' g_2 25 (lcells ⟨0, none, 0, [], none, 0, []⟩) ∧ LS (· < w.heap.size) w' l ∧ Chg Nob w w' ∧ LO (fun x => (w.heap.size ≤ x ∧ x ≠ g_1 ∧ x ≠ g_2) ∧ x < g7) w' 72 ⟨ba, some ⟨gs, 0, none⟩, sc, sn, da, dc, de⟩) ?_ ?_
        rotate_left
        ·
          first | refine WC.cond_dec rfl (fun hc37 => ?_) (fun hc37 => ?_) | refine WC.cond_split rfl (fun hc37 => ?_) (fun hc37 => ?_)
          ·
            refine WC.region (WL.fieldAddr (fld_25_1) rfl rfl (WL.loadB Try.isAgg22 hb7' rfl rfl rfl (WL.move rfl rfl (WL.add64 rfl rfl (by first | omega | (constructor <;> omega)) rfl (?_)))))
            obtain ⟨x1, hx1⟩ : ∃ x1, sn[kk + 1]? = some x1 := ⟨_, List.getElem?_eq_getElem (by omega)⟩
            refine WL.index (j := kk + 1) Try.underlying22 Try.sizeOf72 rfl rfl (by omega) (by show kk + 1 < sn.length; omega) rfl ?_
            refine WL.fieldAddr (fld_72_1) rfl rfl (?_)
            refine WL.load Try.isAgg23 rfl (hO.snaps.rsl.cellsAt hx1 1 _ rfl) rfl ?_
            refine WL.assign rfl rfl (WL.nil (?_))
            exact WX.cut (_, _, _) ⟨rfl, rfl, rfl, rfl, rfl, trivial⟩ ⟨by first | exact .inl ⟨x1, hx1, rfl, rfl, rfl⟩ | (refine .inr ⟨?_, rfl, rfl, rfl⟩; rw [List.getElem?_eq_none_iff]; omega), hb7', hb1', hb2', h, hw, hO.mono (fun x hx => ⟨hx.1, by have := hx.2; omega⟩)⟩
          ·
            refine WC.skip (?_)
            exact WX.cut (_, _, _) ⟨rfl, rfl, rfl, rfl, rfl, trivial⟩ ⟨by first | exact .inl ⟨x1, hx1, rfl, rfl, rfl⟩ | (refine .inr ⟨?_, rfl, rfl, rfl⟩; rw [List.getElem?_eq_none_iff]; omega), hb7', hb1', hb2', h, hw, hO.mono (fun x hx => ⟨hx.1, by have := hx.2; omega⟩)⟩
        ·
          rintro ⟨nao, ncap, nl⟩ w1 ⟨hNx, hb7, hb1, hb2, h, hw, hO⟩
          simp only at hNx
          dsimp only
          have lg1 := hb1.lt
          have lg2 := hb2.lt
          have lg7 := hb7.lt
          have hnl : nl.length ≤ 1700000000000 := by
            rcases hNx with ⟨x1, hx1, rfl, rfl, rfl⟩ | ⟨hx1, rfl, rfl, rfl⟩
            ·
              exact hzs x1 (List.mem_of_getElem? hx1)
            ·
              rw [hld]; exact hz.1
          have hN : RSl (fun x => (w.heap.size ≤ x ∧ x ≠ g_1 ∧ x ≠ g_2) ∧ x < g7) w1 ept nao ncap nl := by
            rcases hNx with ⟨x1, hx1, rfl, rfl, rfl⟩ | ⟨hx1, rfl, rfl, rfl⟩
            ·
              exact hO.ls.inner x1 (List.mem_of_getElem? hx1)
            ·
              exact hO.ls.dead
          refine WX.then_normal (WC.seq (WC.region (?_)))
          obtain ⟨nC, hnC⟩ := szNow hw
          refine WL.build (e := ept) [] Try.underlying23 Try.sizeOf27 Try.zeroValue27 rfl rfl rfl (by first | (simp [Value.cells]; done) | (simp [Value.cells] <;> rfl) | (simp [Value.cells, eb, ei, es, ebool, e32, e64]; done)) (by decide) rfl ?_
          intro a_hq0 w_hq0 hq0 l_hq0 z_hq0 k_hq0
          have zs_k_hq0 := k_hq0.size
          replace hb7 := hb7.pure k_hq0
          replace hb1 := hb1.pure k_hq0
          replace hb2 := hb2.pure k_hq0
          replace h := h.pure k_hq0
          replace hw := hw.pure k_hq0
          replace hO := hO.pure k_hq0
          replace hN := hN.pure k_hq0
          refine WL.fieldAddr (fld_25_1) rfl rfl (WL.loadB Try.isAgg22 hb7 rfl rfl rfl (WL.move rfl rfl (?_)))
          refine WL.index (j := kk) Try.underlying22 Try.sizeOf72 rfl rfl rfl hkl rfl ?_
          refine WL.fieldAddr (fld_72_1) rfl rfl (?_)
          refine WL.load Try.isAgg23 rfl (hO.snaps.rsl.cellsAt hx0 1 _ rfl) rfl ?_
          have hx0r := hO.ls.inner x0 (List.mem_of_getElem? hx0)
          refine WL.append (S := (nC ≤ ·)) (e := ept) info_27 rfl Try.underlying23 rfl rfl (hq0.mono (fun b hb => by omega)) (hx0r.src Try.underlying23) (by constructor <;> (simp only [List.length_cons, List.length_nil]; omega)) (fun x hx => by omega) rfl ?_
          intro ao9 c9 w9 hSt0 gg9 n9
          have gk : Chg (fun x => nC ≤ x) _ w9 := gg9.chg.mono (fun x _ hx => hx.2)
          have zs_gk := gk.size
          replace hb7 := hb7.chg gk (by first | (intro x h1 h2; exact h2) | (intro x h1 h2; have h3 : _ = _ := h2; subst h3; assumption) | (intro x h1 h2; have h3 : _ = _ := h2; exfalso; omega) | (intro b h1 h2 h3; have h4 : _ = _ := h3; (try dsimp only at h2); exfalso; omega) | (intro h1; have h2 : _ = _ := h1; exfalso; omega) | (intro h1; have h2 : _ ≤ _ := h1; exfalso; omega) | (intros; exfalso; (try dsimp only at *); omega) | (intro h1; exfalso; have h4 := h1.2; (try dsimp only at *); omega) | (intro x h1 h2; exact h2.1))
          replace hb1 := hb1.chg gk (by first | (intro x h1 h2; exact h2) | (intro x h1 h2; have h3 : _ = _ := h2; subst h3; assumption) | (intro x h1 h2; have h3 : _ = _ := h2; exfalso; omega) | (intro b h1 h2 h3; have h4 : _ = _ := h3; (try dsimp only at h2); exfalso; omega) | (intro h1; have h2 : _ = _ := h1; exfalso; omega) | (intro h1; have h2 : _ ≤ _ := h1; exfalso; omega) | (intros; exfalso; (try dsimp only at *); omega) | (intro h1; exfalso; have h4 := h1.2; (try dsimp only at *); omega) | (intro x h1 h2; exact h2.1))
          replace hb2 := hb2.chg gk (by first | (intro x h1 h2; exact h2) | (intro x h1 h2; have h3 : _ = _ := h2; subst h3; assumption) | (intro x h1 h2; have h3 : _ = _ := h2; exfalso; omega) | (intro b h1 h2 h3; have h4 : _ = _ := h3; (try dsimp only at h2); exfalso; omega) | (intro h1; have h2 : _ = _ := h1; exfalso; omega) | (intro h1; have h2 : _ ≤ _ := h1; exfalso; omega) | (intros; exfalso; (try dsimp only at *); omega) | (intro h1; exfalso; have h4 := h1.2; (try dsimp only at *); omega) | (intro x h1 h2; exact h2.1))
          replace h := h.chg gk (by first | (intro x h1 h2; exact h2) | (intro x h1 h2; have h3 : _ = _ := h2; subst h3; assumption) | (intro x h1 h2; have h3 : _ = _ := h2; exfalso; omega) | (intro b h1 h2 h3; have h4 : _ = _ := h3; (try dsimp only at h2); exfalso; omega) | (intro h1; have h2 : _ = _ := h1; exfalso; omega) | (intro h1; have h2 : _ ≤ _ := h1; exfalso; omega) | (intros; exfalso; (try dsimp only at *); omega) | (intro h1; exfalso; have h4 := h1.2; (try dsimp only at *); omega) | (intro x h1 h2; exact h2.1))
          replace hw := hw.chg gk (by first | (intro x h1 h2; exact h2) | (intro x h1 h2; have h3 : _ = _ := h2; subst h3; assumption) | (intro x h1 h2; have h3 : _ = _ := h2; exfalso; omega) | (intro b h1 h2 h3; have h4 : _ = _ := h3; (try dsimp only at h2); exfalso; omega) | (intro h1; have h2 : _ = _ := h1; exfalso; omega) | (intro h1; have h2 : _ ≤ _ := h1; exfalso; omega) | (intros; exfalso; (try dsimp only at *); omega) | (intro h1; exfalso; have h4 := h1.2; (try dsimp only at *); omega) | (intro x h1 h2; exact h2.1))
          replace hO := hO.chg gk (by first | (intro x h1 h2; exact h2) | (intro x h1 h2; have h3 : _ = _ := h2; subst h3; assumption) | (intro x h1 h2; have h3 : _ = _ := h2; exfalso; omega) | (intro b h1 h2 h3; have h4 : _ = _ := h3; (try dsimp only at h2); exfalso; omega) | (intro h1; have h2 : _ = _ := h1; exfalso; omega) | (intro h1; have h2 : _ ≤ _ := h1; exfalso; omega) | (intros; exfalso; (try dsimp only at *); omega) | (intro h1; exfalso; have h4 := h1.2; (try dsimp only at *); omega) | (intro x h1 h2; exact h2.1))
          replace hN := hN.chg gk (by first | (intro x h1 h2; exact h2) | (intro x h1 h2; have h3 : _ = _ := h2; subst h3; assumption) | (intro x h1 h2; have h3 : _ = _ := h2; exfalso; omega) | (intro b h1 h2 h3; have h4 : _ = _ := h3; (try dsimp only at h2); exfalso; omega) | (intro h1; have h2 : _ = _ := h1; exfalso; omega) | (intro h1; have h2 : _ ≤ _ := h1; exfalso; omega) | (intros; exfalso; (try dsimp only at *); omega) | (intro h1; exfalso; have h4 := h1.2; (try dsimp only at *); omega) | (intro x h1 h2; exact h2.1))
          rw [List.nil_append] at hSt0 ⊢
          refine WL.assign rfl rfl (WL.nil (WX.then_normal (WC.seq (WC.region (WL.assign rfl rfl (WL.nil (WX.then_normal (?_))))))))
          refine WC.seq (WC.seq (WC.region (WL.assign rfl rfl (WL.nil (WX.then_normal (WC.block (?_)))))))
          obtain ⟨ah, hah⟩ : ∃ ah, ah = l.abs.ahead kk := ⟨_, rfl⟩
          refine WC.loop (σ := Nat × (Option Addr × Nat × List PtV) × (Option Addr × Nat × List PtV)) (fun q => [(1, vi (kk : Int)), (2, gptr g_1), (4, gptr g_2), (7, gptr g7), (8, .slice nao nl.length ncap), (9, .slice q.2.1.1 q.2.1.2.2.length q.2.1.2.1), (10, .slice q.2.2.1 q.2.2.2.2.length q.2.2.2.1), (11, vi (q.1 : Int))]) (fun q w' => (q.1 ≤ nl.length ∧ nC ≤ w'.heap.size) ∧ Blk w' g7 25 [vi ba, .slice (some ⟨gs, 0, none⟩) sn.length sc, .slice da de.length dc] ∧ Blk w' g_1 25 (lcells l) ∧ Blk w' g_2 25 (lcells ⟨0, none, 0, [], none, 0, []⟩) ∧ LS (· < w.heap.size) w' l ∧ Chg Nob w w' ∧ LO (fun x => (w.heap.size ≤ x ∧ x ≠ g_1 ∧ x ≠ g_2) ∧ x < g7) w' 72 ⟨ba, some ⟨gs, 0, none⟩, sc, sn, da, dc, de⟩ ∧ RSl (fun x => (w.heap.size ≤ x ∧ x ≠ g_1 ∧ x ≠ g_2) ∧ x < g7) w' ept nao ncap nl ∧ Row (nC ≤ ·) w' 27 ept q.2.1.1 q.2.1.2.1 q.2.1.2.2 ∧ Row (nC ≤ ·) w' 27 ept q.2.2.1 q.2.2.2.1 q.2.2.2.2 ∧ Ap q.2.1.1 q.2.2.1 ∧ q.2.1.2.2 = x0.dead ++ (nl.take q.1).filter (fun p => !decide (ah < p.b)) ∧ q.2.2.2.2 = (nl.take q.1).filter (fun p => decide (ah < p.b))) (fun q => nl.length - q.1) (0, (ao9, c9, x0.dead), (none, 0, [])) ⟨rfl, rfl, rfl, rfl, rfl, rfl, rfl, rfl, trivial⟩ ⟨⟨Nat.zero_le _, by omega⟩, hb7, hb1, hb2, h, hw, hO, hN, hSt0, Row.nil _ _ _ _, Ap.none _, by simp, by simp⟩ ?_
          clear hb7 hb1 hb2 h hw hO hN hSt0
          rintro ⟨i, ⟨sao, sc2, st⟩, ⟨fao, fc, fr⟩⟩ w1 ⟨⟨hi, hnC1⟩, hb7, hb1, hb2, h, hw, hO, hN, hSt, hFr, hAp, hst, hfr⟩
          simp only at hi hSt hFr hAp hst hfr
          dsimp only
          have lg1 := hb1.lt
          have lg2 := hb2.lt
          have hg7C : g7 < nC := by omega
          have zw := hw.size
          have hstl : st.length ≤ 3400000000000 := by
            rw [hst, List.length_append]
            have h1 := List.length_filter_le (fun p : PtV => !decide (ah < p.b)) (nl.take i)
            have h2 := List.length_take_le i nl
            omega
          have hfrl : fr.length ≤ 1700000000000 := by
            rw [hfr]
            have h1 := List.length_filter_le (fun p : PtV => decide (ah < p.b)) (nl.take i)
            have h2 := List.length_take_le i nl
            omega
          refine WC.seq (WC.seq (WC.region (WL.move rfl rfl (WL.move rfl rfl (WL.len Try.underlying23 rfl rfl (?_))))))
          refine WL.lss? rfl rfl rfl (fun h56 => ?_) (fun h56 => ?_)
          ·
            refine WL.nil (WX.then_normal (WC.cond_true rfl (WC.skip (WX.then_normal (WC.seq (WC.block (WC.seq (?_))))))))
            obtain ⟨p, hp⟩ : ∃ p, nl[i]? = some p := ⟨_, List.getElem?_eq_getElem (by omega)⟩
            obtain ⟨nb, no, rfl⟩ := hN.place hp
            refine WC.draw (Nob) [0, 1, 2, 3, 4, 5, 6, 7, 8] [] mixed rfl rfl (fun wd_4 kd_4 zd_4 => ?_)
            have zs_kd_4 := kd_4.size
            replace hb7 := hb7.pure kd_4
            replace hb1 := hb1.pure kd_4
            replace hb2 := hb2.pure kd_4
            replace h := h.pure kd_4
            replace hw := hw.pure kd_4
            replace hO := hO.pure kd_4
            replace hN := hN.pure kd_4
            replace hSt := hSt.pure kd_4
            replace hFr := hFr.pure kd_4
            apply DQ.step (E' := [(8, _)])
            case ho => rfl
            case hs => exact ⟨rfl, trivial⟩
            case hk => rfl
            case h1 =>
              intro wq_5 kq_5
              refine WL.move rfl rfl (?_)
              refine WL.nil ?_
              exact WX.one ⟨rfl, by first | exact Chg.refl _ _ | assumption⟩
            apply DQ.step (E' := [(11, _)])
            case ho => rfl
            case hs => exact ⟨rfl, trivial⟩
            case hk => rfl
            case h1 =>
              intro wq_6 kq_6
              refine WL.move rfl rfl (?_)
              refine WL.nil ?_
              exact WX.one ⟨rfl, by first | exact Chg.refl _ _ | assumption⟩
            apply DQ.step (E' := [(59, _), (60, _)])
            case ho => rfl
            case hs => exact ⟨rfl, rfl, trivial⟩
            case hk => rfl
            case h1 =>
              intro wq_7 kq_7
              have zs_kq_7 := kq_7.size
              replace hb7 := hb7.pure kq_7
              replace hb1 := hb1.pure kq_7
              replace hb2 := hb2.pure kq_7
              replace h := h.pure kq_7
              replace hw := hw.pure kq_7
              replace hO := hO.pure kq_7
              replace hN := hN.pure kq_7
              replace hSt := hSt.pure kq_7
              replace hFr := hFr.pure kq_7
              refine WL.indexC (e := ept) hN Try.underlying23 Try.sizeOf27 rfl rfl ⟨hp, rfl⟩ rfl ?_
              refine WL.nil ?_
              exact WX.one ⟨rfl, by first | exact Chg.refl _ _ | assumption⟩
            apply DQ.step (E' := [(61, _)])
            case ho => rfl
            case hs => exact ⟨rfl, trivial⟩
            case hk => rfl
            case h1 =>
              intro wq_8 kq_8
              refine WL.fieldAddr (fld_27_2) rfl rfl (?_)
              refine WL.nil ?_
              exact WX.one ⟨rfl, by first | exact Chg.refl _ _ | assumption⟩
            apply DQ.step (E' := [(62, _)])
            case ho => rfl
            case hs => exact ⟨rfl, trivial⟩
            case hk => rfl
            case h1 =>
              intro wq_9 kq_9
              have zs_kq_9 := kq_9.size
              replace hb7 := hb7.pure kq_9
              replace hb1 := hb1.pure kq_9
              replace hb2 := hb2.pure kq_9
              replace h := h.pure kq_9
              replace hw := hw.pure kq_9
              replace hO := hO.pure kq_9
              replace hN := hN.pure kq_9
              replace hSt := hSt.pure kq_9
              replace hFr := hFr.pure kq_9
              refine WL.load Try.isAgg3 rfl (hN.cellsAt hp 2 _ rfl) rfl ?_
              refine WL.nil ?_
              exact WX.one ⟨rfl, by first | exact Chg.refl _ _ | assumption⟩
            apply DQ.step (E' := [(2, _)])
            case ho => rfl
            case hs => exact ⟨rfl, trivial⟩
            case hk => rfl
            case h1 =>
              intro wq_10 kq_10
              have zs_kq_10 := kq_10.size
              replace hb7 := hb7.pure kq_10
              replace hb1 := hb1.pure kq_10
              replace hb2 := hb2.pure kq_10
              replace h := h.pure kq_10
              replace hw := hw.pure kq_10
              replace hO := hO.pure kq_10
              replace hN := hN.pure kq_10
              replace hSt := hSt.pure kq_10
              replace hFr := hFr.pure kq_10
              refine WL.loadsB Try.isAgg25 Try.sizeOf25 hb1 rfl (by first | (simp; done) | (simp; omega) | rfl) rfl (?_)
              refine WL.nil ?_
              exact WX.one ⟨rfl, by first | exact Chg.refl _ _ | assumption⟩
            apply DQ.step (E' := [(1, _)])
            case ho => rfl
            case hs => exact ⟨rfl, trivial⟩
            case hk => rfl
            case h1 =>
              intro wq_11 kq_11
              refine WL.move rfl rfl (?_)
              refine WL.nil ?_
              exact WX.one ⟨rfl, by first | exact Chg.refl _ _ | assumption⟩
            apply DQ.step (E' := [(64, _), (65, _)])
            case ho => rfl
            case hs => exact ⟨rfl, rfl, trivial⟩
            case hk => rfl
            case h1 =>
              intro wq_12 kq_12
              have zs_kq_12 := kq_12.size
              replace hb7 := hb7.pure kq_12
              replace hb1 := hb1.pure kq_12
              replace hb2 := hb2.pure kq_12
              replace h := h.pure kq_12
              replace hw := hw.pure kq_12
              replace hO := hO.pure kq_12
              replace hN := hN.pure kq_12
              replace hSt := hSt.pure kq_12
              replace hFr := hFr.pure kq_12
              refine WL.call eg_27 rfl rfl (rahead_calls h.snaps (by omega) kk (by omega)) ?_
              rintro v w4 ⟨rfl, k4⟩
              rw [← hah]
              have zs_k4 := k4.size
              replace hb7 := hb7.pure k4
              replace hb1 := hb1.pure k4
              replace hb2 := hb2.pure k4
              replace h := h.pure k4
              replace hw := hw.pure k4
              replace hO := hO.pure k4
              replace hN := hN.pure k4
              replace hSt := hSt.pure k4
              replace hFr := hFr.pure k4
              refine WL.nil ?_
              exact WX.one ⟨rfl, by first | exact Chg.refl _ _ | assumption⟩
            apply DQ.split (E' := [(63, _), (66, _)])
            case ho => rfl
            case hs => exact ⟨rfl, rfl, trivial⟩
            case hk => rfl
            case h1 =>
              intro wq_13 kq_13
              refine WL.gtr rfl rfl rfl ?_
              refine WL.nil ?_
              exact WX.one ⟨rfl, by first | exact Chg.refl _ _ | assumption⟩
            case ht =>
              intro h67
              replace h67 := of_decide_eq_true h67
              refine DQ.done (fun _ => ?_)
              refine DL.done (fun we_14 ke_14 => ?_)
              have zs_ke_14 := ke_14.size
              replace hb7 := hb7.pure ke_14
              replace hb1 := hb1.pure ke_14
              replace hb2 := hb2.pure ke_14
              replace h := h.pure ke_14
              replace hw := hw.pure ke_14
              replace hO := hO.pure ke_14
              replace hN := hN.pure ke_14
              replace hSt := hSt.pure ke_14
              replace hFr := hFr.pure ke_14
              refine WX.then_normal (WC.cond_true rfl (WC.region (WL.move rfl rfl (WL.move rfl rfl (WL.move rfl rfl (?_))))))
              refine WL.indexT (e := ept) Try.underlying23 Try.sizeOf27 hN rfl rfl ⟨hp, rfl⟩ rfl ?_
              intro bb oo hcc
              refine WL.loads _ Try.isAgg27 Try.sizeOf27 rfl hcc rfl rfl (?_)
              refine WL.build (e := ept) [p] Try.underlying23 Try.sizeOf27 Try.zeroValue27 rfl rfl rfl (by first | (simp [Value.cells]; done) | (simp [Value.cells] <;> rfl) | (simp [Value.cells, eb, ei, es, ebool, e32, e64]; done)) (by decide) rfl ?_
              intro a_hq w_hq hq l_hq z_hq k_hq
              have zs_k_hq := k_hq.size
              replace hb7 := hb7.pure k_hq
              replace hb1 := hb1.pure k_hq
              replace hb2 := hb2.pure k_hq
              replace h := h.pure k_hq
              replace hw := hw.pure k_hq
              replace hO := hO.pure k_hq
              replace hN := hN.pure k_hq
              replace hSt := hSt.pure k_hq
              replace hFr := hFr.pure k_hq
              refine WL.append (e := ept) info_27 rfl Try.underlying23 rfl rfl hFr (hq.rsl.src Try.underlying23) (by constructor <;> (simp only [List.length_cons, List.length_nil]; omega)) (fun x hx => by omega) rfl ?_
              intro ao8 c8 w8 hb8 gg8 n8
              have hSt8 := Row.other hSt hAp gg8
              have hAp8 := hAp.grow hSt.own.lt gg8
              have gk : Chg (fun x => nC ≤ x) _ w8 := gg8.chg.mono (fun x _ hx => hx.2)
              have zs_gk := gk.size
              replace hb7 := hb7.chg gk (by first | (intro x h1 h2; exact h2) | (intro x h1 h2; have h3 : _ = _ := h2; subst h3; assumption) | (intro x h1 h2; have h3 : _ = _ := h2; exfalso; omega) | (intro b h1 h2 h3; have h4 : _ = _ := h3; (try dsimp only at h2); exfalso; omega) | (intro h1; have h2 : _ = _ := h1; exfalso; omega) | (intro h1; have h2 : _ ≤ _ := h1; exfalso; omega) | (intros; exfalso; (try dsimp only at *); omega) | (intro h1; exfalso; have h4 := h1.2; (try dsimp only at *); omega) | (intro x h1 h2; exact h2.1))
              replace hb1 := hb1.chg gk (by first | (intro x h1 h2; exact h2) | (intro x h1 h2; have h3 : _ = _ := h2; subst h3; assumption) | (intro x h1 h2; have h3 : _ = _ := h2; exfalso; omega) | (intro b h1 h2 h3; have h4 : _ = _ := h3; (try dsimp only at h2); exfalso; omega) | (intro h1; have h2 : _ = _ := h1; exfalso; omega) | (intro h1; have h2 : _ ≤ _ := h1; exfalso; omega) | (intros; exfalso; (try dsimp only at *); omega) | (intro h1; exfalso; have h4 := h1.2; (try dsimp only at *); omega) | (intro x h1 h2; exact h2.1))
              replace hb2 := hb2.chg gk (by first | (intro x h1 h2; exact h2) | (intro x h1 h2; have h3 : _ = _ := h2; subst h3; assumption) | (intro x h1 h2; have h3 : _ = _ := h2; exfalso; omega) | (intro b h1 h2 h3; have h4 : _ = _ := h3; (try dsimp only at h2); exfalso; omega) | (intro h1; have h2 : _ = _ := h1; exfalso; omega) | (intro h1; have h2 : _ ≤ _ := h1; exfalso; omega) | (intros; exfalso; (try dsimp only at *); omega) | (intro h1; exfalso; have h4 := h1.2; (try dsimp only at *); omega) | (intro x h1 h2; exact h2.1))
              replace h := h.chg gk (by first | (intro x h1 h2; exact h2) | (intro x h1 h2; have h3 : _ = _ := h2; subst h3; assumption) | (intro x h1 h2; have h3 : _ = _ := h2; exfalso; omega) | (intro b h1 h2 h3; have h4 : _ = _ := h3; (try dsimp only at h2); exfalso; omega) | (intro h1; have h2 : _ = _ := h1; exfalso; omega) | (intro h1; have h2 : _ ≤ _ := h1; exfalso; omega) | (intros; exfalso; (try dsimp only at *); omega) | (intro h1; exfalso; have h4 := h1.2; (try dsimp only at *); omega) | (intro x h1 h2; exact h2.1))
              replace hw := hw.chg gk (by first | (intro x h1 h2; exact h2) | (intro x h1 h2; have h3 : _ = _ := h2; subst h3; assumption) | (intro x h1 h2; have h3 : _ = _ := h2; exfalso; omega) | (intro b h1 h2 h3; have h4 : _ = _ := h3; (try dsimp only at h2); exfalso; omega) | (intro h1; have h2 : _ = _ := h1; exfalso; omega) | (intro h1; have h2 : _ ≤ _ := h1; exfalso; omega) | (intros; exfalso; (try dsimp only at *); omega) | (intro h1; exfalso; have h4 := h1.2; (try dsimp only at *); omega) | (intro x h1 h2; exact h2.1))
              replace hO := hO.chg gk (by first | (intro x h1 h2; exact h2) | (intro x h1 h2; have h3 : _ = _ := h2; subst h3; assumption) | (intro x h1 h2; have h3 : _ = _ := h2; exfalso; omega) | (intro b h1 h2 h3; have h4 : _ = _ := h3; (try dsimp only at h2); exfalso; omega) | (intro h1; have h2 : _ = _ := h1; exfalso; omega) | (intro h1; have h2 : _ ≤ _ := h1; exfalso; omega) | (intros; exfalso; (try dsimp only at *); omega) | (intro h1; exfalso; have h4 := h1.2; (try dsimp only at *); omega) | (intro x h1 h2; exact h2.1))
              replace hN := hN.chg gk (by first | (intro x h1 h2; exact h2) | (intro x h1 h2; have h3 : _ = _ := h2; subst h3; assumption) | (intro x h1 h2; have h3 : _ = _ := h2; exfalso; omega) | (intro b h1 h2 h3; have h4 : _ = _ := h3; (try dsimp only at h2); exfalso; omega) | (intro h1; have h2 : _ = _ := h1; exfalso; omega) | (intro h1; have h2 : _ ≤ _ := h1; exfalso; omega) | (intros; exfalso; (try dsimp only at *); omega) | (intro h1; exfalso; have h4 := h1.2; (try dsimp only at *); omega) | (intro x h1 h2; exact h2.1))
              refine WL.assign rfl rfl (WL.nil (WX.block_normal (WX.then_normal (WC.region (WL.move rfl rfl (WL.add64 rfl rfl (by first | omega | (constructor <;> omega)) rfl (WL.assign rfl rfl (?_))))))))
              refine WL.nil (?_)
              first
                | (exfalso; omega)
                | (have hh : ah < p.b := h67
                   have htk : nl.take (i + 1) = nl.take i ++ [p] := by rw [List.take_add_one, hp]; rfl
                   exact WX.loop_next (i + 1, (sao, sc2, st), (ao8, c8, fr ++ [p])) ⟨rfl, rfl, rfl, rfl, rfl, rfl, rfl, rfl, trivial⟩ ⟨⟨by show i + 1 ≤ _; omega, by omega⟩, hb7, hb1, hb2, h, hw, hO, hN, hSt8, hb8, hAp8, by rw [htk, List.filter_append, hst]; simp [hh], by rw [htk, List.filter_append, hfr]; simp [hh]⟩ (by show nl.length - (i + 1) < nl.length - i; omega))
                | (have hh : ¬ ah < p.b := h67
                   have htk : nl.take (i + 1) = nl.take i ++ [p] := by rw [List.take_add_one, hp]; rfl
                   exact WX.loop_next (i + 1, (ao8, c8, st ++ [p]), (fao, fc, fr)) ⟨rfl, rfl, rfl, rfl, rfl, rfl, rfl, rfl, trivial⟩ ⟨⟨by show i + 1 ≤ _; omega, by omega⟩, hb7, hb1, hb2, h, hw, hO, hN, hb8, hFr8, hAp8, by rw [htk, List.filter_append, hst]; simp [hh], by rw [htk, List.filter_append, hfr]; simp [hh]⟩ (by show nl.length - (i + 1) < nl.length - i; omega))
                | (have hne : j ≠ kk := by omega
                   have ho := outs_ne hy hne
                   exact WX.loop_next (j + 1, (as9, cs9)) ⟨rfl, rfl, rfl, rfl, rfl, rfl, rfl, trivial⟩ ⟨by show j + 1 ≤ _; omega, hb7, hb2, hw, hWn, hSt, hFr, hDe, hIn, by show Blk _ _ _ [vi ba, .slice as9 (outs full kk (j + 1)).length cs9, .slice da de.length dc]; rw [ho]; exact hb12, by show Row _ _ _ esn as9 cs9 (outs full kk (j + 1)); rw [ho]; exact hR9⟩ (by show sn.length - (j + 1) < sn.length - j; omega))
                | (have hee : j = kk := by omega
                   have ho : outs full kk (j + 1) = outs full kk j := by rw [hee]; exact outs_eq (by omega)
                   have hms := mix_same hfl (j := j) (by
                     rcases hfull with ⟨x1, hx1, _, rfl⟩ | ⟨_, _, rfl⟩
                     ·
                       rw [List.getElem?_set_ne (by omega)]
                     ·
                       rfl) (by omega)
                   exact WX.loop_next (j + 1, (oao, oc)) ⟨rfl, rfl, rfl, rfl, rfl, rfl, rfl, trivial⟩ ⟨by show j + 1 ≤ _; omega, hb7, hb2, hw, by show Row _ _ _ esn _ sc (full.take (j + 1) ++ sn.drop (j + 1)); rw [← hms]; exact hSn, hSt, hFr, hDe, hIn, by show Blk _ _ _ [vi ba, .slice oao (outs full kk (j + 1)).length oc, .slice da de.length dc]; rw [ho]; exact hb12, by show Row _ _ _ esn oao oc (outs full kk (j + 1)); rw [ho]; exact hOut⟩ (by show sn.length - (j + 1) < sn.length - j; omega))
            case hf =>
              intro h67
              replace h67 := of_decide_eq_false h67
              refine DQ.done (fun _ => ?_)
              refine DL.done (fun we_14 ke_14 => ?_)
              have zs_ke_14 := ke_14.size
              replace hb7 := hb7.pure ke_14
              replace hb1 := hb1.pure ke_14
              replace hb2 := hb2.pure ke_14
              replace h := h.pure ke_14
              replace hw := hw.pure ke_14
              replace hO := hO.pure ke_14
              replace hN := hN.pure ke_14
              replace hSt := hSt.pure ke_14
              replace hFr := hFr.pure ke_14
              refine WX.then_normal (WC.cond_false rfl (WC.region (WL.move rfl rfl (WL.move rfl rfl (WL.move rfl rfl (?_))))))
              refine WL.indexT (e := ept) Try.underlying23 Try.sizeOf27 hN rfl rfl ⟨hp, rfl⟩ rfl ?_
              intro bb oo hcc
              refine WL.loads _ Try.isAgg27 Try.sizeOf27 rfl hcc rfl rfl (?_)
              refine WL.build (e := ept) [p] Try.underlying23 Try.sizeOf27 Try.zeroValue27 rfl rfl rfl (by first | (simp [Value.cells]; done) | (simp [Value.cells] <;> rfl) | (simp [Value.cells, eb, ei, es, ebool, e32, e64]; done)) (by decide) rfl ?_
              intro a_hq w_hq hq l_hq z_hq k_hq
              have zs_k_hq := k_hq.size
              replace hb7 := hb7.pure k_hq
              replace hb1 := hb1.pure k_hq
              replace hb2 := hb2.pure k_hq
              replace h := h.pure k_hq
              replace hw := hw.pure k_hq
              replace hO := hO.pure k_hq
              replace hN := hN.pure k_hq
              replace hSt := hSt.pure k_hq
              replace hFr := hFr.pure k_hq
              refine WL.append (e := ept) info_27 rfl Try.underlying23 rfl rfl hSt (hq.rsl.src Try.underlying23) (by constructor <;> (simp only [List.length_cons, List.length_nil]; omega)) (fun x hx => by omega) rfl ?_
              intro ao8 c8 w8 hb8 gg8 n8
              have hFr8 := Row.other hFr hAp.symm gg8
              have hAp8 := (hAp.symm.grow hFr.own.lt gg8).symm
              have gk : Chg (fun x => nC ≤ x) _ w8 := gg8.chg.mono (fun x _ hx => hx.2)
              have zs_gk := gk.size
              replace hb7 := hb7.chg gk (by first | (intro x h1 h2; exact h2) | (intro x h1 h2; have h3 : _ = _ := h2; subst h3; assumption) | (intro x h1 h2; have h3 : _ = _ := h2; exfalso; omega) | (intro b h1 h2 h3; have h4 : _ = _ := h3; (try dsimp only at h2); exfalso; omega) | (intro h1; have h2 : _ = _ := h1; exfalso; omega) | (intro h1; have h2 : _ ≤ _ := h1; exfalso; omega) | (intros; exfalso; (try dsimp only at *); omega) | (intro h1; exfalso; have h4 := h1.2; (try dsimp only at *); omega) | (intro x h1 h2; exact h2.1))
              replace hb1 := hb1.chg gk (by first | (intro x h1 h2; exact h2) | (intro x h1 h2; have h3 : _ = _ := h2; subst h3; assumption) | (intro x h1 h2; have h3 : _ = _ := h2; exfalso; omega) | (intro b h1 h2 h3; have h4 : _ = _ := h3; (try dsimp only at h2); exfalso; omega) | (intro h1; have h2 : _ = _ := h1; exfalso; omega) | (intro h1; have h2 : _ ≤ _ := h1; exfalso; omega) | (intros; exfalso; (try dsimp only at *); omega) | (intro h1; exfalso; have h4 := h1.2; (try dsimp only at *); omega) | (intro x h1 h2; exact h2.1))
              replace hb2 := hb2.chg gk (by first | (intro x h1 h2; exact h2) | (intro x h1 h2; have h3 : _ = _ := h2; subst h3; assumption) | (intro x h1 h2; have h3 : _ = _ := h2; exfalso; omega) | (intro b h1 h2 h3; have h4 : _ = _ := h3; (try dsimp only at h2); exfalso; omega) | (intro h1; have h2 : _ = _ := h1; exfalso; omega) | (intro h1; have h2 : _ ≤ _ := h1; exfalso; omega) | (intros; exfalso; (try dsimp only at *); omega) | (intro h1; exfalso; have h4 := h1.2; (try dsimp only at *); omega) | (intro x h1 h2; exact h2.1))
              replace h := h.chg gk (by first | (intro x h1 h2; exact h2) | (intro x h1 h2; have h3 : _ = _ := h2; subst h3; assumption) | (intro x h1 h2; have h3 : _ = _ := h2; exfalso; omega) | (intro b h1 h2 h3; have h4 : _ = _ := h3; (try dsimp only at h2); exfalso; omega) | (intro h1; have h2 : _ = _ := h1; exfalso; omega) | (intro h1; have h2 : _ ≤ _ := h1; exfalso; omega) | (intros; exfalso; (try dsimp only at *); omega) | (intro h1; exfalso; have h4 := h1.2; (try dsimp only at *); omega) | (intro x h1 h2; exact h2.1))
              replace hw := hw.chg gk (by first | (intro x h1 h2; exact h2) | (intro x h1 h2; have h3 : _ = _ := h2; subst h3; assumption) | (intro x h1 h2; have h3 : _ = _ := h2; exfalso; omega) | (intro b h1 h2 h3; have h4 : _ = _ := h3; (try dsimp only at h2); exfalso; omega) | (intro h1; have h2 : _ = _ := h1; exfalso; omega) | (intro h1; have h2 : _ ≤ _ := h1; exfalso; omega) | (intros; exfalso; (try dsimp only at *); omega) | (intro h1; exfalso; have h4 := h1.2; (try dsimp only at *); omega) | (intro x h1 h2; exact h2.1))
              replace hO := hO.chg gk (by first | (intro x h1 h2; exact h2) | (intro x h1 h2; have h3 : _ = _ := h2; subst h3; assumption) | (intro x h1 h2; have h3 : _ = _ := h2; exfalso; omega) | (intro b h1 h2 h3; have h4 : _ = _ := h3; (try dsimp only at h2); exfalso; omega) | (intro h1; have h2 : _ = _ := h1; exfalso; omega) | (intro h1; have h2 : _ ≤ _ := h1; exfalso; omega) | (intros; exfalso; (try dsimp only at *); omega) | (intro h1; exfalso; have h4 := h1.2; (try dsimp only at *); omega) | (intro x h1 h2; exact h2.1))
              replace hN := hN.chg gk (by first | (intro x h1 h2; exact h2) | (intro x h1 h2; have h3 : _ = _ := h2; subst h3; assumption) | (intro x h1 h2; have h3 : _ = _ := h2; exfalso; omega) | (intro b h1 h2 h3; have h4 : _ = _ := h3; (try dsimp only at h2); exfalso; omega) | (intro h1; have h2 : _ = _ := h1; exfalso; omega) | (intro h1; have h2 : _ ≤ _ := h1; exfalso; omega) | (intros; exfalso; (try dsimp only at *); omega) | (intro h1; exfalso; have h4 := h1.2; (try dsimp only at *); omega) | (intro x h1 h2; exact h2.1))
              refine WL.assign rfl rfl (WL.nil (WX.block_normal (WX.then_normal (WC.region (WL.move rfl rfl (WL.add64 rfl rfl (by first | omega | (constructor <;> omega)) rfl (WL.assign rfl rfl (?_))))))))
              refine WL.nil (?_)
              first
                | (exfalso; omega)
                | (have hh : ah < p.b := h67
                   have htk : nl.take (i + 1) = nl.take i ++ [p] := by rw [List.take_add_one, hp]; rfl
                   exact WX.loop_next (i + 1, (sao, sc2, st), (ao8, c8, fr ++ [p])) ⟨rfl, rfl, rfl, rfl, rfl, rfl, rfl, rfl, trivial⟩ ⟨⟨by show i + 1 ≤ _; omega, by omega⟩, hb7, hb1, hb2, h, hw, hO, hN, hSt8, hb8, hAp8, by rw [htk, List.filter_append, hst]; simp [hh], by rw [htk, List.filter_append, hfr]; simp [hh]⟩ (by show nl.length - (i + 1) < nl.length - i; omega))
                | (have hh : ¬ ah < p.b := h67
                   have htk : nl.take (i + 1) = nl.take i ++ [p] := by rw [List.take_add_one, hp]; rfl
                   exact WX.loop_next (i + 1, (ao8, c8, st ++ [p]), (fao, fc, fr)) ⟨rfl, rfl, rfl, rfl, rfl, rfl, rfl, rfl, trivial⟩ ⟨⟨by show i + 1 ≤ _; omega, by omega⟩, hb7, hb1, hb2, h, hw, hO, hN, hb8, hFr8, hAp8, by rw [htk, List.filter_append, hst]; simp [hh], by rw [htk, List.filter_append, hfr]; simp [hh]⟩ (by show nl.length - (i + 1) < nl.length - i; omega))
                | (have hne : j ≠ kk := by omega
                   have ho := outs_ne hy hne
                   exact WX.loop_next (j + 1, (as9, cs9)) ⟨rfl, rfl, rfl, rfl, rfl, rfl, rfl, trivial⟩ ⟨by show j + 1 ≤ _; omega, hb7, hb2, hw, hWn, hSt, hFr, hDe, hIn, by show Blk _ _ _ [vi ba, .slice as9 (outs full kk (j + 1)).length cs9, .slice da de.length dc]; rw [ho]; exact hb12, by show Row _ _ _ esn as9 cs9 (outs full kk (j + 1)); rw [ho]; exact hR9⟩ (by show sn.length - (j + 1) < sn.length - j; omega))
                | (have hee : j = kk := by omega
                   have ho : outs full kk (j + 1) = outs full kk j := by rw [hee]; exact outs_eq (by omega)
                   have hms := mix_same hfl (j := j) (by
                     rcases hfull with ⟨x1, hx1, _, rfl⟩ | ⟨_, _, rfl⟩
                     ·
                       rw [List.getElem?_set_ne (by omega)]
                     ·
                       rfl) (by omega)
                   exact WX.loop_next (j + 1, (oao, oc)) ⟨rfl, rfl, rfl, rfl, rfl, rfl, rfl, trivial⟩ ⟨by show j + 1 ≤ _; omega, hb7, hb2, hw, by show Row _ _ _ esn _ sc (full.take (j + 1) ++ sn.drop (j + 1)); rw [← hms]; exact hSn, hSt, hFr, hDe, hIn, by show Blk _ _ _ [vi ba, .slice oao (outs full kk (j + 1)).length oc, .slice da de.length dc]; rw [ho]; exact hb12, by show Row _ _ _ esn oao oc (outs full kk (j + 1)); rw [ho]; exact hOut⟩ (by show sn.length - (j + 1) < sn.length - j; omega))
          ·
            refine WL.nil (WX.then_normal (WC.cond_false rfl (WC.exit (WX.then_exit (WX.then_exit (WX.block_here (WX.then_normal (?_))))))))
            refine WC.seq (WC.region (WL.fieldAddr (fld_25_0) rfl rfl (WL.loadB Try.isAgg3 hb7 rfl rfl rfl (WL.fieldAddr (fld_25_2) rfl rfl (WL.loadB Try.isAgg23 hb7 rfl rfl rfl (WL.bld rfl (bld_25_0_2 _ _ _ _) rfl (?_)))))))
            have hti : nl.take i = nl := List.take_of_length_le (by omega)
            rw [hti] at hst hfr
            obtain ⟨nD, hnD⟩ := szNow hw
            have hbs : l.abs.base = ba := (congrArg LA.base ha).symm
            have hds : l.abs.dead = de := (congrArg LA.dead ha).symm
            have hgs := hO.snaps.at_ _ rfl
            have hgs' : (w.heap.size ≤ gs ∧ gs ≠ g_1 ∧ gs ≠ g_2) ∧ gs < g7 := hgs
            have lg7 := hb7.lt
            obtain ⟨full, hfull, hfl⟩ : ∃ full : List SnV, ((∃ x1 : SnV, sn[kk + 1]? = some x1 ∧ nl = x1.dead ∧ full = sn.set (kk + 1) ⟨x1.txg, sao, sc2, st⟩) ∨ (sn[kk + 1]? = none ∧ nl = de ∧ full = sn)) ∧ full.length = sn.length := by
              rcases hNx with ⟨x1, hx1, _, _, h4⟩ | ⟨hx1, _, _, h4⟩
              ·
                exact ⟨_, .inl ⟨x1, hx1, h4, rfl⟩, List.length_set ..⟩
              ·
                exact ⟨_, .inr ⟨hx1, h4, rfl⟩, rfl⟩
            have hSn := hO.snaps.mono (S' := fun x => (w.heap.size ≤ x ∧ x < g7) ∧ x ≠ g_2) (fun x hx => ⟨⟨hx.1.1, hx.2⟩, hx.1.2.2⟩)
            have hSt2 := hSt.lt.rsl.mono (S' := fun x => (w.heap.size ≤ x ∧ x < nD) ∧ x ≠ gs ∧ x ≠ g7 ∧ x ≠ g_2) (fun x hx => by have h1 := hx.1; have h2 := hx.2; omega)
            have hFr2 := hFr.lt.rsl.mono (S' := fun x => (w.heap.size ≤ x ∧ x < nD) ∧ x ≠ gs ∧ x ≠ g7 ∧ x ≠ g_2) (fun x hx => by have h1 := hx.1; have h2 := hx.2; omega)
            have hDe := (Row.neT (by decide) hO.snaps hO.dead).rsl.mono (S' := fun x => (w.heap.size ≤ x ∧ x < nD) ∧ x ≠ gs ∧ x ≠ g7 ∧ x ≠ g_2) (fun x hx => by have h1 := hx.1; have h2 := hx.2; omega)
            have hIs : ∀ x ∈ sn, RSl (fun x => (w.heap.size ≤ x ∧ x < nD) ∧ x ≠ gs ∧ x ≠ g7 ∧ x ≠ g_2) _ ept x.ao x.cap x.dead := fun x hx => by
              obtain ⟨j, hj, rfl⟩ := List.getElem_of_mem hx
              exact (Row.neT (by decide) hO.snaps (hO.inner j _ hj (List.getElem?_eq_getElem hj))).rsl.mono (fun x hx => by have h1 := hx.1; have h2 := hx.2; omega)
            have hIn : InR (fun x => (w.heap.size ≤ x ∧ x < nD) ∧ x ≠ gs ∧ x ≠ g7 ∧ x ≠ g_2) _ full := ⟨fun x hx => by
              rcases hfull with ⟨x1, hx1, _, rfl⟩ | ⟨_, _, rfl⟩
              ·
                rcases List.mem_or_eq_of_mem_set hx with h1 | h1
                ·
                  exact hIs x h1
                ·
                  rw [h1]; exact hSt2
              ·
                exact hIs x hx⟩
            refine WL.alloc Try.zeroValue25 rfl ?_
            intro g12 w12 hge12 hlt12 hb12 k12
            have zs_k12 := k12.size
            replace hb7 := hb7.pure k12
            replace hb2 := hb2.pure k12
            replace hw := hw.pure k12
            replace hSn := hSn.pure k12
            replace hSt2 := hSt2.pure k12
            replace hFr2 := hFr2.pure k12
            replace hDe := hDe.pure k12
            replace hIn := hIn.pure k12
            refine WL.stores Try.sizeOf25 hb12 rfl rfl (by first | (simp; done) | (simp; omega) | rfl) (by first | exact Enc.one _ _ | (intro u hu; obtain ⟨x, _, rfl⟩ := List.mem_map.1 hu; rfl) | (simp [Value.oneCell']; done) | (simp [Value.oneCell', Value.cells]; done)) (by first | (simp; done) | (simp; omega) | (simp [Value.cells]; done) | (simp [Value.cells]; omega) | exact Nat.le_of_ble_eq_true rfl) rfl ?_
            intro w_4 hs_4 hn_4 k_4
            have zs_k_4 := k_4.size
            replace hb7 := hb7.chg k_4 (by first | (intro x h1 h2; exact h2) | (intro x h1 h2; have h3 : _ = _ := h2; subst h3; assumption) | (intro x h1 h2; have h3 : _ = _ := h2; exfalso; omega) | (intro b h1 h2 h3; have h4 : _ = _ := h3; (try dsimp only at h2); exfalso; omega) | (intro h1; have h2 : _ = _ := h1; exfalso; omega) | (intro h1; have h2 : _ ≤ _ := h1; exfalso; omega) | (intros; exfalso; (try dsimp only at *); omega) | (intro h1; exfalso; have h4 := h1.2; (try dsimp only at *); omega) | (intro x h1 h2; exact h2.1))
            replace hb2 := hb2.chg k_4 (by first | (intro x h1 h2; exact h2) | (intro x h1 h2; have h3 : _ = _ := h2; subst h3; assumption) | (intro x h1 h2; have h3 : _ = _ := h2; exfalso; omega) | (intro b h1 h2 h3; have h4 : _ = _ := h3; (try dsimp only at h2); exfalso; omega) | (intro h1; have h2 : _ = _ := h1; exfalso; omega) | (intro h1; have h2 : _ ≤ _ := h1; exfalso; omega) | (intros; exfalso; (try dsimp only at *); omega) | (intro h1; exfalso; have h4 := h1.2; (try dsimp only at *); omega) | (intro x h1 h2; exact h2.1))
            replace hw := hw.chg k_4 (by first | (intro x h1 h2; exact h2) | (intro x h1 h2; have h3 : _ = _ := h2; subst h3; assumption) | (intro x h1 h2; have h3 : _ = _ := h2; exfalso; omega) | (intro b h1 h2 h3; have h4 : _ = _ := h3; (try dsimp only at h2); exfalso; omega) | (intro h1; have h2 : _ = _ := h1; exfalso; omega) | (intro h1; have h2 : _ ≤ _ := h1; exfalso; omega) | (intros; exfalso; (try dsimp only at *); omega) | (intro h1; exfalso; have h4 := h1.2; (try dsimp only at *); omega) | (intro x h1 h2; exact h2.1))
            replace hSn := hSn.chg k_4 (by first | (intro x h1 h2; exact h2) | (intro x h1 h2; have h3 : _ = _ := h2; subst h3; assumption) | (intro x h1 h2; have h3 : _ = _ := h2; exfalso; omega) | (intro b h1 h2 h3; have h4 : _ = _ := h3; (try dsimp only at h2); exfalso; omega) | (intro h1; have h2 : _ = _ := h1; exfalso; omega) | (intro h1; have h2 : _ ≤ _ := h1; exfalso; omega) | (intros; exfalso; (try dsimp only at *); omega) | (intro h1; exfalso; have h4 := h1.2; (try dsimp only at *); omega) | (intro x h1 h2; exact h2.1))
            replace hSt2 := hSt2.chg k_4 (by first | (intro x h1 h2; exact h2) | (intro x h1 h2; have h3 : _ = _ := h2; subst h3; assumption) | (intro x h1 h2; have h3 : _ = _ := h2; exfalso; omega) | (intro b h1 h2 h3; have h4 : _ = _ := h3; (try dsimp only at h2); exfalso; omega) | (intro h1; have h2 : _ = _ := h1; exfalso; omega) | (intro h1; have h2 : _ ≤ _ := h1; exfalso; omega) | (intros; exfalso; (try dsimp only at *); omega) | (intro h1; exfalso; have h4 := h1.2; (try dsimp only at *); omega) | (intro x h1 h2; exact h2.1))
            replace hFr2 := hFr2.chg k_4 (by first | (intro x h1 h2; exact h2) | (intro x h1 h2; have h3 : _ = _ := h2; subst h3; assumption) | (intro x h1 h2; have h3 : _ = _ := h2; exfalso; omega) | (intro b h1 h2 h3; have h4 : _ = _ := h3; (try dsimp only at h2); exfalso; omega) | (intro h1; have h2 : _ = _ := h1; exfalso; omega) | (intro h1; have h2 : _ ≤ _ := h1; exfalso; omega) | (intros; exfalso; (try dsimp only at *); omega) | (intro h1; exfalso; have h4 := h1.2; (try dsimp only at *); omega) | (intro x h1 h2; exact h2.1))
            replace hDe := hDe.chg k_4 (by first | (intro x h1 h2; exact h2) | (intro x h1 h2; have h3 : _ = _ := h2; subst h3; assumption) | (intro x h1 h2; have h3 : _ = _ := h2; exfalso; omega) | (intro b h1 h2 h3; have h4 : _ = _ := h3; (try dsimp only at h2); exfalso; omega) | (intro h1; have h2 : _ = _ := h1; exfalso; omega) | (intro h1; have h2 : _ ≤ _ := h1; exfalso; omega) | (intros; exfalso; (try dsimp only at *); omega) | (intro h1; exfalso; have h4 := h1.2; (try dsimp only at *); omega) | (intro x h1 h2; exact h2.1))
            replace hIn := hIn.chg k_4 (by first | (intro x h1 h2; exact h2) | (intro x h1 h2; have h3 : _ = _ := h2; subst h3; assumption) | (intro x h1 h2; have h3 : _ = _ := h2; exfalso; omega) | (intro b h1 h2 h3; have h4 : _ = _ := h3; (try dsimp only at h2); exfalso; omega) | (intro h1; have h2 : _ = _ := h1; exfalso; omega) | (intro h1; have h2 : _ ≤ _ := h1; exfalso; omega) | (intros; exfalso; (try dsimp only at *); omega) | (intro h1; exfalso; have h4 := h1.2; (try dsimp only at *); omega) | (intro x h1 h2; exact h2.1))
            replace hb12 := hn_4
            refine WL.nil (WX.then_normal (WC.seq (WC.seq (WC.region (WL.assign rfl rfl (WL.nil (WX.then_normal (?_))))))))
            refine WC.block (?_)
            have ho0 : outs full kk 0 = [] := by simp [outs]
            have hb12' : Blk _ g12 25 [vi ba, .slice none 0 0, .slice da de.length dc] := hb12
            refine WC.loop (σ := Nat × (Option Addr × Nat)) (fun q => [(1, vi (kk : Int)), (4, gptr g_2), (7, gptr g7), (9, .slice sao st.length sc2), (10, .slice fao fr.length fc), (12, gptr g12), (13, vi (q.1 : Int))]) (fun q w' => q.1 ≤ sn.length ∧ Blk w' g7 25 [vi ba, .slice (some ⟨gs, 0, none⟩) sn.length sc, .slice da de.length dc] ∧ Blk w' g_2 25 (lcells ⟨0, none, 0, [], none, 0, []⟩) ∧ Chg Nob w w' ∧ Row (fun x => (w.heap.size ≤ x ∧ x < g7) ∧ x ≠ g_2) w' 72 esn (some ⟨gs, 0, none⟩) sc (full.take q.1 ++ sn.drop q.1) ∧ RSl (fun x => (w.heap.size ≤ x ∧ x < nD) ∧ x ≠ gs ∧ x ≠ g7 ∧ x ≠ g_2) w' ept sao sc2 st ∧ RSl (fun x => (w.heap.size ≤ x ∧ x < nD) ∧ x ≠ gs ∧ x ≠ g7 ∧ x ≠ g_2) w' ept fao fc fr ∧ RSl (fun x => (w.heap.size ≤ x ∧ x < nD) ∧ x ≠ gs ∧ x ≠ g7 ∧ x ≠ g_2) w' ept da dc de ∧ InR (fun x => (w.heap.size ≤ x ∧ x < nD) ∧ x ≠ gs ∧ x ≠ g7 ∧ x ≠ g_2) w' full ∧ Blk w' g12 25 [vi ba, .slice q.2.1 (outs full kk q.1).length q.2.2, .slice da de.length dc] ∧ Row (fun x => nD ≤ x ∧ x ≠ g12) w' 72 esn q.2.1 q.2.2 (outs full kk q.1)) (fun q => sn.length - q.1) (0, (none, 0)) ⟨rfl, rfl, rfl, rfl, rfl, rfl, rfl, trivial⟩ ⟨Nat.zero_le _, hb7, hb2, hw, hSn, hSt2, hFr2, hDe, hIn, by show Blk _ _ _ [vi ba, .slice none (outs full kk 0).length 0, .slice da de.length dc]; rw [ho0]; exact hb12', by show Row _ _ _ esn none 0 (outs full kk 0); rw [ho0]; exact Row.nil _ _ _ _⟩ ?_
            clear hb7 hb2 hw hSn hSt2 hFr2 hDe hIn hb12 hb12'
            rintro ⟨j, ⟨oao, oc⟩⟩ w1 ⟨hj, hb7, hb2, hw, hSn, hSt, hFr, hDe, hIn, hb12, hOut⟩
            simp only at hj hSn hb12 hOut
            dsimp only
            have lg2 := hb2.lt
            have lg7 := hb7.lt
            have lg12 := hb12.lt
            have zw := hw.size
            have hol := outs_len full kk j
            refine WC.seq (WC.seq (WC.region (WL.move rfl rfl (WL.fieldAddr (fld_25_1) rfl rfl (WL.loadB Try.isAgg22 hb7 rfl rfl rfl (WL.len Try.underlying22 rfl rfl (?_)))))))
            refine WL.lss? rfl rfl rfl (fun h91 => ?_) (fun h91 => ?_)
            ·
              refine WL.nil (WX.then_normal (WC.cond_true rfl (WC.skip (WX.then_normal (WC.seq (WC.block (WC.seq (?_))))))))
              refine WC.seq (WC.region (WL.move rfl rfl (WL.move rfl rfl (WL.add64 rfl rfl (by first | omega | (constructor <;> omega)) rfl (?_)))))
              refine WL.eql? rfl rfl rfl (fun h97 => ?_) (fun h97 => ?_)
              ·
                refine WL.nil (WX.then_normal (WC.cond_true rfl (WC.region (WL.fieldAddr (fld_25_1) rfl rfl (WL.loadB Try.isAgg22 hb7 rfl rfl rfl (WL.move rfl rfl (WL.move rfl rfl (?_))))))))
                have h97' : (j : Int) = (kk : Int) + 1 := h97
                obtain ⟨x1, hx1, hn1, hf1⟩ : ∃ x1 : SnV, sn[kk + 1]? = some x1 ∧ nl = x1.dead ∧ full = sn.set (kk + 1) ⟨x1.txg, sao, sc2, st⟩ := by
                  rcases hfull with h1 | ⟨h1, _⟩
                  ·
                    exact h1
                  ·
                    have := List.getElem?_eq_none_iff.1 h1
                    omega
                have hjk : j = kk + 1 := by omega
                have hfj : full[j]? = some ⟨x1.txg, sao, sc2, st⟩ := by rw [hf1, hjk]; exact List.getElem?_set_self (by omega)
                refine WL.index (j := j) Try.underlying22 Try.sizeOf72 rfl rfl rfl (by omega) rfl ?_
                refine WL.fieldAddr (fld_72_1) rfl rfl (?_)
                refine WL.storeF (e := esn) (ys := full.take (j + 1) ++ sn.drop (j + 1)) Try.sizeOf23 hSn rfl rfl rfl (by show 0 + j * 2 + 1 + 1 ≤ (full.take j ++ sn.drop j).length * 2; simp only [List.length_append, List.length_take, List.length_drop]; omega) (by simp only [List.length_append, List.length_take, List.length_drop]; omega) (by rw [← mix_set hfl hfj]; exact sn_set (x := x1) (by rw [mix_at hfl (by omega), hjk]; exact hx1) ⟨x1.txg, sao, sc2, st⟩ rfl) ?_
                intro w8 z8 hW8 k8
                have zs_k8 := k8.size
                replace hb7 := hb7.chg k8 (by first | (intro x h1 h2; exact h2) | (intro x h1 h2; have h3 : _ = _ := h2; subst h3; assumption) | (intro x h1 h2; have h3 : _ = _ := h2; exfalso; omega) | (intro b h1 h2 h3; have h4 : _ = _ := h3; (try dsimp only at h2); exfalso; omega) | (intro h1; have h2 : _ = _ := h1; exfalso; omega) | (intro h1; have h2 : _ ≤ _ := h1; exfalso; omega) | (intros; exfalso; (try dsimp only at *); omega) | (intro h1; exfalso; have h4 := h1.2; (try dsimp only at *); omega) | (intro x h1 h2; exact h2.1))
                replace hb2 := hb2.chg k8 (by first | (intro x h1 h2; exact h2) | (intro x h1 h2; have h3 : _ = _ := h2; subst h3; assumption) | (intro x h1 h2; have h3 : _ = _ := h2; exfalso; omega) | (intro b h1 h2 h3; have h4 : _ = _ := h3; (try dsimp only at h2); exfalso; omega) | (intro h1; have h2 : _ = _ := h1; exfalso; omega) | (intro h1; have h2 : _ ≤ _ := h1; exfalso; omega) | (intros; exfalso; (try dsimp only at *); omega) | (intro h1; exfalso; have h4 := h1.2; (try dsimp only at *); omega) | (intro x h1 h2; exact h2.1))
                replace hw := hw.chg k8 (by first | (intro x h1 h2; exact h2) | (intro x h1 h2; have h3 : _ = _ := h2; subst h3; assumption) | (intro x h1 h2; have h3 : _ = _ := h2; exfalso; omega) | (intro b h1 h2 h3; have h4 : _ = _ := h3; (try dsimp only at h2); exfalso; omega) | (intro h1; have h2 : _ = _ := h1; exfalso; omega) | (intro h1; have h2 : _ ≤ _ := h1; exfalso; omega) | (intros; exfalso; (try dsimp only at *); omega) | (intro h1; exfalso; have h4 := h1.2; (try dsimp only at *); omega) | (intro x h1 h2; exact h2.1))
                replace hSt := hSt.chg k8 (by first | (intro x h1 h2; exact h2) | (intro x h1 h2; have h3 : _ = _ := h2; subst h3; assumption) | (intro x h1 h2; have h3 : _ = _ := h2; exfalso; omega) | (intro b h1 h2 h3; have h4 : _ = _ := h3; (try dsimp only at h2); exfalso; omega) | (intro h1; have h2 : _ = _ := h1; exfalso; omega) | (intro h1; have h2 : _ ≤ _ := h1; exfalso; omega) | (intros; exfalso; (try dsimp only at *); omega) | (intro h1; exfalso; have h4 := h1.2; (try dsimp only at *); omega) | (intro x h1 h2; exact h2.1))
                replace hFr := hFr.chg k8 (by first | (intro x h1 h2; exact h2) | (intro x h1 h2; have h3 : _ = _ := h2; subst h3; assumption) | (intro x h1 h2; have h3 : _ = _ := h2; exfalso; omega) | (intro b h1 h2 h3; have h4 : _ = _ := h3; (try dsimp only at h2); exfalso; omega) | (intro h1; have h2 : _ = _ := h1; exfalso; omega) | (intro h1; have h2 : _ ≤ _ := h1; exfalso; omega) | (intros; exfalso; (try dsimp only at *); omega) | (intro h1; exfalso; have h4 := h1.2; (try dsimp only at *); omega) | (intro x h1 h2; exact h2.1))
                replace hDe := hDe.chg k8 (by first | (intro x h1 h2; exact h2) | (intro x h1 h2; have h3 : _ = _ := h2; subst h3; assumption) | (intro x h1 h2; have h3 : _ = _ := h2; exfalso; omega) | (intro b h1 h2 h3; have h4 : _ = _ := h3; (try dsimp only at h2); exfalso; omega) | (intro h1; have h2 : _ = _ := h1; exfalso; omega) | (intro h1; have h2 : _ ≤ _ := h1; exfalso; omega) | (intros; exfalso; (try dsimp only at *); omega) | (intro h1; exfalso; have h4 := h1.2; (try dsimp only at *); omega) | (intro x h1 h2; exact h2.1))
                replace hIn := hIn.chg k8 (by first | (intro x h1 h2; exact h2) | (intro x h1 h2; have h3 : _ = _ := h2; subst h3; assumption) | (intro x h1 h2; have h3 : _ = _ := h2; exfalso; omega) | (intro b h1 h2 h3; have h4 : _ = _ := h3; (try dsimp only at h2); exfalso; omega) | (intro h1; have h2 : _ = _ := h1; exfalso; omega) | (intro h1; have h2 : _ ≤ _ := h1; exfalso; omega) | (intros; exfalso; (try dsimp only at *); omega) | (intro h1; exfalso; have h4 := h1.2; (try dsimp only at *); omega) | (intro x h1 h2; exact h2.1))
                replace hb12 := hb12.chg k8 (by first | (intro x h1 h2; exact h2) | (intro x h1 h2; have h3 : _ = _ := h2; subst h3; assumption) | (intro x h1 h2; have h3 : _ = _ := h2; exfalso; omega) | (intro b h1 h2 h3; have h4 : _ = _ := h3; (try dsimp only at h2); exfalso; omega) | (intro h1; have h2 : _ = _ := h1; exfalso; omega) | (intro h1; have h2 : _ ≤ _ := h1; exfalso; omega) | (intros; exfalso; (try dsimp only at *); omega) | (intro h1; exfalso; have h4 := h1.2; (try dsimp only at *); omega) | (intro x h1 h2; exact h2.1))
                replace hOut := hOut.chg k8 (by first | (intro x h1 h2; exact h2) | (intro x h1 h2; have h3 : _ = _ := h2; subst h3; assumption) | (intro x h1 h2; have h3 : _ = _ := h2; exfalso; omega) | (intro b h1 h2 h3; have h4 : _ = _ := h3; (try dsimp only at h2); exfalso; omega) | (intro h1; have h2 : _ = _ := h1; exfalso; omega) | (intro h1; have h2 : _ ≤ _ := h1; exfalso; omega) | (intros; exfalso; (try dsimp only at *); omega) | (intro h1; exfalso; have h4 := h1.2; (try dsimp only at *); omega) | (intro x h1 h2; exact h2.1))
                refine WL.nil (WX.then_normal (WC.seq (WC.region (WL.move rfl rfl (WL.move rfl rfl (?_))))))
                refine WL.neq? rfl rfl rfl (fun h106 => ?_) (fun h106 => ?_)
                ·
                  refine WL.nil (WX.then_normal (WC.cond_true rfl (?_)))
                  obtain ⟨y, hy⟩ : ∃ y, full[j]? = some y := ⟨_, List.getElem?_eq_getElem (by omega)⟩
                  first
                    | have hWn := hW8
                    | (have hms := mix_same hfl (j := j) (by
                         rcases hfull with ⟨x1, hx1, _, rfl⟩ | ⟨_, _, rfl⟩
                         ·
                           rw [List.getElem?_set_ne (by omega)]
                         ·
                           rfl) (by omega)
                       have hWn := hSn
                       rw [hms] at hWn)
                  have hmixl : (full.take (j + 1) ++ sn.drop (j + 1)).length = sn.length := by simp only [List.length_append, List.length_take, List.length_drop]; omega
                  have hyn : (full.take (j + 1) ++ sn.drop (j + 1))[j]? = some y := by rw [List.getElem?_append_left (by rw [List.length_take]; omega), List.getElem?_take_of_lt (by omega)]; exact hy
                  have hM12 : nD ≤ g12 := by omega
                  refine WC.drawM ((fun x => nD ≤ x)) [0, 2, 3, 4, 5, 6, 9] [1, 7, 8, 10] mixed rfl rfl (fun wd_5 kd_5 zd_5 => ?_)
                  have zs_kd_5 := kd_5.size
                  replace hb7 := hb7.pure kd_5
                  replace hb2 := hb2.pure kd_5
                  replace hw := hw.pure kd_5
                  replace hSt := hSt.pure kd_5
                  replace hFr := hFr.pure kd_5
                  replace hDe := hDe.pure kd_5
                  replace hIn := hIn.pure kd_5
                  replace hb12 := hb12.pure kd_5
                  replace hOut := hOut.pure kd_5
                  replace hWn := hWn.pure kd_5
                  apply DQT.step (E' := [(12, _)])
                  case ho => rfl
                  case hs => exact ⟨rfl, trivial⟩
                  case hk => rfl
                  case h1 =>
                    intro wq_7 kq_7
                    refine WL.fieldAddr (fld_25_1) rfl rfl (?_)
                    refine WL.nil ?_
                    exact WX.one ⟨rfl, by first | exact Chg.refl _ _ | assumption⟩
                  apply DQT.step (E' := [(7, _)])
                  case ho => rfl
                  case hs => exact ⟨rfl, trivial⟩
                  case hk => rfl
                  case h1 =>
                    intro wq_8 kq_8
                    refine WL.fieldAddr (fld_25_1) rfl rfl (?_)
                    refine WL.nil ?_
                    exact WX.one ⟨rfl, by first | exact Chg.refl _ _ | assumption⟩
                  apply DQT.step (E' := [(109, _)])
                  case ho => rfl
                  case hs => exact ⟨rfl, trivial⟩
                  case hk => rfl
                  case h1 =>
                    intro wq_9 kq_9
                    have zs_kq_9 := kq_9.size
                    replace hb7 := hb7.chg kq_9 (by first | (intro x h1 h2; exact h2) | (intro x h1 h2; have h3 : _ = _ := h2; subst h3; assumption) | (intro x h1 h2; have h3 : _ = _ := h2; exfalso; omega) | (intro b h1 h2 h3; have h4 : _ = _ := h3; (try dsimp only at h2); exfalso; omega) | (intro h1; have h2 : _ = _ := h1; exfalso; omega) | (intro h1; have h2 : _ ≤ _ := h1; exfalso; omega) | (intros; exfalso; (try dsimp only at *); omega) | (intro h1; exfalso; have h4 := h1.2; (try dsimp only at *); omega) | (intro x h1 h2; exact h2.1))
                    replace hb2 := hb2.chg kq_9 (by first | (intro x h1 h2; exact h2) | (intro x h1 h2; have h3 : _ = _ := h2; subst h3; assumption) | (intro x h1 h2; have h3 : _ = _ := h2; exfalso; omega) | (intro b h1 h2 h3; have h4 : _ = _ := h3; (try dsimp only at h2); exfalso; omega) | (intro h1; have h2 : _ = _ := h1; exfalso; omega) | (intro h1; have h2 : _ ≤ _ := h1; exfalso; omega) | (intros; exfalso; (try dsimp only at *); omega) | (intro h1; exfalso; have h4 := h1.2; (try dsimp only at *); omega) | (intro x h1 h2; exact h2.1))
                    replace hw := hw.chg kq_9 (by first | (intro x h1 h2; exact h2) | (intro x h1 h2; have h3 : _ = _ := h2; subst h3; assumption) | (intro x h1 h2; have h3 : _ = _ := h2; exfalso; omega) | (intro b h1 h2 h3; have h4 : _ = _ := h3; (try dsimp only at h2); exfalso; omega) | (intro h1; have h2 : _ = _ := h1; exfalso; omega) | (intro h1; have h2 : _ ≤ _ := h1; exfalso; omega) | (intros; exfalso; (try dsimp only at *); omega) | (intro h1; exfalso; have h4 := h1.2; (try dsimp only at *); omega) | (intro x h1 h2; exact h2.1))
                    replace hSt := hSt.chg kq_9 (by first | (intro x h1 h2; exact h2) | (intro x h1 h2; have h3 : _ = _ := h2; subst h3; assumption) | (intro x h1 h2; have h3 : _ = _ := h2; exfalso; omega) | (intro b h1 h2 h3; have h4 : _ = _ := h3; (try dsimp only at h2); exfalso; omega) | (intro h1; have h2 : _ = _ := h1; exfalso; omega) | (intro h1; have h2 : _ ≤ _ := h1; exfalso; omega) | (intros; exfalso; (try dsimp only at *); omega) | (intro h1; exfalso; have h4 := h1.2; (try dsimp only at *); omega) | (intro x h1 h2; exact h2.1))
                    replace hFr := hFr.chg kq_9 (by first | (intro x h1 h2; exact h2) | (intro x h1 h2; have h3 : _ = _ := h2; subst h3; assumption) | (intro x h1 h2; have h3 : _ = _ := h2; exfalso; omega) | (intro b h1 h2 h3; have h4 : _ = _ := h3; (try dsimp only at h2); exfalso; omega) | (intro h1; have h2 : _ = _ := h1; exfalso; omega) | (intro h1; have h2 : _ ≤ _ := h1; exfalso; omega) | (intros; exfalso; (try dsimp only at *); omega) | (intro h1; exfalso; have h4 := h1.2; (try dsimp only at *); omega) | (intro x h1 h2; exact h2.1))
                    replace hDe := hDe.chg kq_9 (by first | (intro x h1 h2; exact h2) | (intro x h1 h2; have h3 : _ = _ := h2; subst h3; assumption) | (intro x h1 h2; have h3 : _ = _ := h2; exfalso; omega) | (intro b h1 h2 h3; have h4 : _ = _ := h3; (try dsimp only at h2); exfalso; omega) | (intro h1; have h2 : _ = _ := h1; exfalso; omega) | (intro h1; have h2 : _ ≤ _ := h1; exfalso; omega) | (intros; exfalso; (try dsimp only at *); omega) | (intro h1; exfalso; have h4 := h1.2; (try dsimp only at *); omega) | (intro x h1 h2; exact h2.1))
                    replace hIn := hIn.chg kq_9 (by first | (intro x h1 h2; exact h2) | (intro x h1 h2; have h3 : _ = _ := h2; subst h3; assumption) | (intro x h1 h2; have h3 : _ = _ := h2; exfalso; omega) | (intro b h1 h2 h3; have h4 : _ = _ := h3; (try dsimp only at h2); exfalso; omega) | (intro h1; have h2 : _ = _ := h1; exfalso; omega) | (intro h1; have h2 : _ ≤ _ := h1; exfalso; omega) | (intros; exfalso; (try dsimp only at *); omega) | (intro h1; exfalso; have h4 := h1.2; (try dsimp only at *); omega) | (intro x h1 h2; exact h2.1))
                    replace hWn := hWn.chg kq_9 (by first | (intro x h1 h2; exact h2) | (intro x h1 h2; have h3 : _ = _ := h2; subst h3; assumption) | (intro x h1 h2; have h3 : _ = _ := h2; exfalso; omega) | (intro b h1 h2 h3; have h4 : _ = _ := h3; (try dsimp only at h2); exfalso; omega) | (intro h1; have h2 : _ = _ := h1; exfalso; omega) | (intro h1; have h2 : _ ≤ _ := h1; exfalso; omega) | (intros; exfalso; (try dsimp only at *); omega) | (intro h1; exfalso; have h4 := h1.2; (try dsimp only at *); omega) | (intro x h1 h2; exact h2.1))
                    refine WL.loadB Try.isAgg22 hb7 rfl rfl rfl (?_)
                    refine WL.nil ?_
                    exact WX.one ⟨rfl, by first | exact Chg.refl _ _ | assumption⟩
                  apply DQT.step (E' := [(13, _)])
                  case ho => rfl
                  case hs => exact ⟨rfl, trivial⟩
                  case hk => rfl
                  case h1 =>
                    intro wq_10 kq_10
                    refine WL.move rfl rfl (?_)
                    refine WL.nil ?_
                    exact WX.one ⟨rfl, by first | exact Chg.refl _ _ | assumption⟩
                  apply DQT.step (E' := [(110, _), (111, _)])
                  case ho => rfl
                  case hs => exact ⟨rfl, rfl, trivial⟩
                  case hk => rfl
                  case h1 =>
                    intro wq_11 kq_11
                    have zs_kq_11 := kq_11.size
                    replace hb7 := hb7.chg kq_11 (by first | (intro x h1 h2; exact h2) | (intro x h1 h2; have h3 : _ = _ := h2; subst h3; assumption) | (intro x h1 h2; have h3 : _ = _ := h2; exfalso; omega) | (intro b h1 h2 h3; have h4 : _ = _ := h3; (try dsimp only at h2); exfalso; omega) | (intro h1; have h2 : _ = _ := h1; exfalso; omega) | (intro h1; have h2 : _ ≤ _ := h1; exfalso; omega) | (intros; exfalso; (try dsimp only at *); omega) | (intro h1; exfalso; have h4 := h1.2; (try dsimp only at *); omega) | (intro x h1 h2; exact h2.1))
                    replace hb2 := hb2.chg kq_11 (by first | (intro x h1 h2; exact h2) | (intro x h1 h2; have h3 : _ = _ := h2; subst h3; assumption) | (intro x h1 h2; have h3 : _ = _ := h2; exfalso; omega) | (intro b h1 h2 h3; have h4 : _ = _ := h3; (try dsimp only at h2); exfalso; omega) | (intro h1; have h2 : _ = _ := h1; exfalso; omega) | (intro h1; have h2 : _ ≤ _ := h1; exfalso; omega) | (intros; exfalso; (try dsimp only at *); omega) | (intro h1; exfalso; have h4 := h1.2; (try dsimp only at *); omega) | (intro x h1 h2; exact h2.1))
                    replace hw := hw.chg kq_11 (by first | (intro x h1 h2; exact h2) | (intro x h1 h2; have h3 : _ = _ := h2; subst h3; assumption) | (intro x h1 h2; have h3 : _ = _ := h2; exfalso; omega) | (intro b h1 h2 h3; have h4 : _ = _ := h3; (try dsimp only at h2); exfalso; omega) | (intro h1; have h2 : _ = _ := h1; exfalso; omega) | (intro h1; have h2 : _ ≤ _ := h1; exfalso; omega) | (intros; exfalso; (try dsimp only at *); omega) | (intro h1; exfalso; have h4 := h1.2; (try dsimp only at *); omega) | (intro x h1 h2; exact h2.1))
                    replace hSt := hSt.chg kq_11 (by first | (intro x h1 h2; exact h2) | (intro x h1 h2; have h3 : _ = _ := h2; subst h3; assumption) | (intro x h1 h2; have h3 : _ = _ := h2; exfalso; omega) | (intro b h1 h2 h3; have h4 : _ = _ := h3; (try dsimp only at h2); exfalso; omega) | (intro h1; have h2 : _ = _ := h1; exfalso; omega) | (intro h1; have h2 : _ ≤ _ := h1; exfalso; omega) | (intros; exfalso; (try dsimp only at *); omega) | (intro h1; exfalso; have h4 := h1.2; (try dsimp only at *); omega) | (intro x h1 h2; exact h2.1))
                    replace hFr := hFr.chg kq_11 (by first | (intro x h1 h2; exact h2) | (intro x h1 h2; have h3 : _ = _ := h2; subst h3; assumption) | (intro x h1 h2; have h3 : _ = _ := h2; exfalso; omega) | (intro b h1 h2 h3; have h4 : _ = _ := h3; (try dsimp only at h2); exfalso; omega) | (intro h1; have h2 : _ = _ := h1; exfalso; omega) | (intro h1; have h2 : _ ≤ _ := h1; exfalso; omega) | (intros; exfalso; (try dsimp only at *); omega) | (intro h1; exfalso; have h4 := h1.2; (try dsimp only at *); omega) | (intro x h1 h2; exact h2.1))
                    replace hDe := hDe.chg kq_11 (by first | (intro x h1 h2; exact h2) | (intro x h1 h2; have h3 : _ = _ := h2; subst h3; assumption) | (intro x h1 h2; have h3 : _ = _ := h2; exfalso; omega) | (intro b h1 h2 h3; have h4 : _ = _ := h3; (try dsimp only at h2); exfalso; omega) | (intro h1; have h2 : _ = _ := h1; exfalso; omega) | (intro h1; have h2 : _ ≤ _ := h1; exfalso; omega) | (intros; exfalso; (try dsimp only at *); omega) | (intro h1; exfalso; have h4 := h1.2; (try dsimp only at *); omega) | (intro x h1 h2; exact h2.1))
                    replace hIn := hIn.chg kq_11 (by first | (intro x h1 h2; exact h2) | (intro x h1 h2; have h3 : _ = _ := h2; subst h3; assumption) | (intro x h1 h2; have h3 : _ = _ := h2; exfalso; omega) | (intro b h1 h2 h3; have h4 : _ = _ := h3; (try dsimp only at h2); exfalso; omega) | (intro h1; have h2 : _ = _ := h1; exfalso; omega) | (intro h1; have h2 : _ ≤ _ := h1; exfalso; omega) | (intros; exfalso; (try dsimp only at *); omega) | (intro h1; exfalso; have h4 := h1.2; (try dsimp only at *); omega) | (intro x h1 h2; exact h2.1))
                    replace hWn := hWn.chg kq_11 (by first | (intro x h1 h2; exact h2) | (intro x h1 h2; have h3 : _ = _ := h2; subst h3; assumption) | (intro x h1 h2; have h3 : _ = _ := h2; exfalso; omega) | (intro b h1 h2 h3; have h4 : _ = _ := h3; (try dsimp only at h2); exfalso; omega) | (intro h1; have h2 : _ = _ := h1; exfalso; omega) | (intro h1; have h2 : _ ≤ _ := h1; exfalso; omega) | (intros; exfalso; (try dsimp only at *); omega) | (intro h1; exfalso; have h4 := h1.2; (try dsimp only at *); omega) | (intro x h1 h2; exact h2.1))
                    refine WL.indexC (e := esn) hWn.rsl Try.underlying22 Try.sizeOf72 (by show some (Value.slice _ sn.length _) = _; rw [hmixl]) rfl ⟨hyn, rfl⟩ rfl ?_
                    refine WL.nil ?_
                    exact WX.one ⟨rfl, by first | exact Chg.refl _ _ | assumption⟩
                  apply DQT.step (E' := [(112, _)])
                  case ho => rfl
                  case hs => exact ⟨rfl, trivial⟩
                  case hk => rfl
                  case h1 =>
                    intro wq_12 kq_12
                    have zs_kq_12 := kq_12.size
                    replace hb7 := hb7.chg kq_12 (by first | (intro x h1 h2; exact h2) | (intro x h1 h2; have h3 : _ = _ := h2; subst h3; assumption) | (intro x h1 h2; have h3 : _ = _ := h2; exfalso; omega) | (intro b h1 h2 h3; have h4 : _ = _ := h3; (try dsimp only at h2); exfalso; omega) | (intro h1; have h2 : _ = _ := h1; exfalso; omega) | (intro h1; have h2 : _ ≤ _ := h1; exfalso; omega) | (intros; exfalso; (try dsimp only at *); omega) | (intro h1; exfalso; have h4 := h1.2; (try dsimp only at *); omega) | (intro x h1 h2; exact h2.1))
                    replace hb2 := hb2.chg kq_12 (by first | (intro x h1 h2; exact h2) | (intro x h1 h2; have h3 : _ = _ := h2; subst h3; assumption) | (intro x h1 h2; have h3 : _ = _ := h2; exfalso; omega) | (intro b h1 h2 h3; have h4 : _ = _ := h3; (try dsimp only at h2); exfalso; omega) | (intro h1; have h2 : _ = _ := h1; exfalso; omega) | (intro h1; have h2 : _ ≤ _ := h1; exfalso; omega) | (intros; exfalso; (try dsimp only at *); omega) | (intro h1; exfalso; have h4 := h1.2; (try dsimp only at *); omega) | (intro x h1 h2; exact h2.1))
                    replace hw := hw.chg kq_12 (by first | (intro x h1 h2; exact h2) | (intro x h1 h2; have h3 : _ = _ := h2; subst h3; assumption) | (intro x h1 h2; have h3 : _ = _ := h2; exfalso; omega) | (intro b h1 h2 h3; have h4 : _ = _ := h3; (try dsimp only at h2); exfalso; omega) | (intro h1; have h2 : _ = _ := h1; exfalso; omega) | (intro h1; have h2 : _ ≤ _ := h1; exfalso; omega) | (intros; exfalso; (try dsimp only at *); omega) | (intro h1; exfalso; have h4 := h1.2; (try dsimp only at *); omega) | (intro x h1 h2; exact h2.1))
                    replace hSt := hSt.chg kq_12 (by first | (intro x h1 h2; exact h2) | (intro x h1 h2; have h3 : _ = _ := h2; subst h3; assumption) | (intro x h1 h2; have h3 : _ = _ := h2; exfalso; omega) | (intro b h1 h2 h3; have h4 : _ = _ := h3; (try dsimp only at h2); exfalso; omega) | (intro h1; have h2 : _ = _ := h1; exfalso; omega) | (intro h1; have h2 : _ ≤ _ := h1; exfalso; omega) | (intros; exfalso; (try dsimp only at *); omega) | (intro h1; exfalso; have h4 := h1.2; (try dsimp only at *); omega) | (intro x h1 h2; exact h2.1))
                    replace hFr := hFr.chg kq_12 (by first | (intro x h1 h2; exact h2) | (intro x h1 h2; have h3 : _ = _ := h2; subst h3; assumption) | (intro x h1 h2; have h3 : _ = _ := h2; exfalso; omega) | (intro b h1 h2 h3; have h4 : _ = _ := h3; (try dsimp only at h2); exfalso; omega) | (intro h1; have h2 : _ = _ := h1; exfalso; omega) | (intro h1; have h2 : _ ≤ _ := h1; exfalso; omega) | (intros; exfalso; (try dsimp only at *); omega) | (intro h1; exfalso; have h4 := h1.2; (try dsimp only at *); omega) | (intro x h1 h2; exact h2.1))
                    replace hDe := hDe.chg kq_12 (by first | (intro x h1 h2; exact h2) | (intro x h1 h2; have h3 : _ = _ := h2; subst h3; assumption) | (intro x h1 h2; have h3 : _ = _ := h2; exfalso; omega) | (intro b h1 h2 h3; have h4 : _ = _ := h3; (try dsimp only at h2); exfalso; omega) | (intro h1; have h2 : _ = _ := h1; exfalso; omega) | (intro h1; have h2 : _ ≤ _ := h1; exfalso; omega) | (intros; exfalso; (try dsimp only at *); omega) | (intro h1; exfalso; have h4 := h1.2; (try dsimp only at *); omega) | (intro x h1 h2; exact h2.1))
                    replace hIn := hIn.chg kq_12 (by first | (intro x h1 h2; exact h2) | (intro x h1 h2; have h3 : _ = _ := h2; subst h3; assumption) | (intro x h1 h2; have h3 : _ = _ := h2; exfalso; omega) | (intro b h1 h2 h3; have h4 : _ = _ := h3; (try dsimp only at h2); exfalso; omega) | (intro h1; have h2 : _ = _ := h1; exfalso; omega) | (intro h1; have h2 : _ ≤ _ := h1; exfalso; omega) | (intros; exfalso; (try dsimp only at *); omega) | (intro h1; exfalso; have h4 := h1.2; (try dsimp only at *); omega) | (intro x h1 h2; exact h2.1))
                    replace hWn := hWn.chg kq_12 (by first | (intro x h1 h2; exact h2) | (intro x h1 h2; have h3 : _ = _ := h2; subst h3; assumption) | (intro x h1 h2; have h3 : _ = _ := h2; exfalso; omega) | (intro b h1 h2 h3; have h4 : _ = _ := h3; (try dsimp only at h2); exfalso; omega) | (intro h1; have h2 : _ = _ := h1; exfalso; omega) | (intro h1; have h2 : _ ≤ _ := h1; exfalso; omega) | (intros; exfalso; (try dsimp only at *); omega) | (intro h1; exfalso; have h4 := h1.2; (try dsimp only at *); omega) | (intro x h1 h2; exact h2.1))
                    refine WL.loads _ Try.isAgg72 Try.sizeOf72 rfl (hWn.rsl.cellsAt hyn) rfl rfl ?_
                    refine WL.nil ?_
                    exact WX.one ⟨rfl, by first | exact Chg.refl _ _ | assumption⟩
                  apply DQT.step (E' := [(12, _)])
                  case ho => rfl
                  case hs => exact ⟨rfl, trivial⟩
                  case hk => rfl
                  case h1 =>
                    intro wq_13 kq_13
                    refine WL.fieldAddr (fld_25_1) rfl rfl (?_)
                    refine WL.nil ?_
                    exact WX.one ⟨rfl, by first | exact Chg.refl _ _ | assumption⟩
                  refine DQT.done (fun hd_6 => ?_)
                  refine ⟨?_, ?_, trivial, trivial, trivial⟩
                  refine DT.step [(107, _)] rfl ⟨rfl, trivial⟩ rfl (fun wq_14 kq_14 => ?_)
                  have zs_kq_14 := kq_14.size
                  replace hb7 := hb7.pure kq_14
                  replace hb2 := hb2.pure kq_14
                  replace hw := hw.pure kq_14
                  replace hSt := hSt.pure kq_14
                  replace hFr := hFr.pure kq_14
                  replace hDe := hDe.pure kq_14
                  replace hIn := hIn.pure kq_14
                  replace hb12 := hb12.pure kq_14
                  replace hOut := hOut.pure kq_14
                  replace hWn := hWn.pure kq_14
                  replace hd_6 := hd_6.pure kq_14
                  refine WL.loadB Try.isAgg22 hb12 rfl rfl rfl (?_)
                  refine WL.nil (WX.one ⟨hd_6, ?_⟩)
                  refine ⟨?_, trivial, trivial, trivial⟩
                  refine DT.step [(113, _)] rfl ⟨rfl, trivial⟩ rfl (fun wq_15 kq_15 => ?_)
                  have zs_kq_15 := kq_15.size
                  replace hb7 := hb7.pure kq_15
                  replace hb2 := hb2.pure kq_15
                  replace hw := hw.pure kq_15
                  replace hSt := hSt.pure kq_15
                  replace hFr := hFr.pure kq_15
                  replace hDe := hDe.pure kq_15
                  replace hIn := hIn.pure kq_15
                  replace hb12 := hb12.pure kq_15
                  replace hOut := hOut.pure kq_15
                  replace hWn := hWn.pure kq_15
                  replace hd_6 := hd_6.pure kq_15
                  refine WL.build (e := esn) [y] Try.underlying22 Try.sizeOf72 Try.zeroValue72 rfl rfl rfl (by first | (simp [Value.cells]; done) | (simp [Value.cells] <;> rfl) | (simp [Value.cells, eb, ei, es, ebool, e32, e64]; done)) (by decide) rfl ?_
                  intro a_hq w_hq hq l_hq z_hq k_hq
                  have zs_k_hq := k_hq.size
                  replace hb7 := hb7.pure k_hq
                  replace hb2 := hb2.pure k_hq
                  replace hw := hw.pure k_hq
                  replace hSt := hSt.pure k_hq
                  replace hFr := hFr.pure k_hq
                  replace hDe := hDe.pure k_hq
                  replace hIn := hIn.pure k_hq
                  replace hb12 := hb12.pure k_hq
                  replace hOut := hOut.pure k_hq
                  replace hWn := hWn.pure k_hq
                  replace hd_6 := hd_6.pure k_hq
                  refine WL.nil (WX.one ⟨hd_6, ?_⟩)
                  refine ⟨?_, trivial, trivial⟩
                  refine DT.step [(108, _), (114, _)] rfl ⟨rfl, rfl, trivial⟩ rfl (fun wq_16 kq_16 => ?_)
                  have zs_kq_16 := kq_16.size
                  replace hb7 := hb7.pure kq_16
                  replace hb2 := hb2.pure kq_16
                  replace hw := hw.pure kq_16
                  replace hSt := hSt.pure kq_16
                  replace hFr := hFr.pure kq_16
                  replace hDe := hDe.pure kq_16
                  replace hIn := hIn.pure kq_16
                  replace hb12 := hb12.pure kq_16
                  replace hOut := hOut.pure kq_16
                  replace hWn := hWn.pure kq_16
                  replace hd_6 := hd_6.pure kq_16
                  replace hq := hq.pure kq_16
                  refine WL.append (e := esn) info_72 rfl Try.underlying22 rfl rfl hOut (hq.rsl.src Try.underlying22) (by constructor <;> (simp only [List.length_cons, List.length_nil]; omega)) (fun x hx => by omega) rfl ?_
                  intro as9 cs9 w9 hR9 gg9 n9
                  have gk9 := gg9.chg.mono (fun x _ hx => hx.2)
                  have zs_gk9 := gk9.size
                  replace hb7 := hb7.chg gk9 (by first | (intro x h1 h2; exact h2) | (intro x h1 h2; have h3 : _ = _ := h2; subst h3; assumption) | (intro x h1 h2; have h3 : _ = _ := h2; exfalso; omega) | (intro b h1 h2 h3; have h4 : _ = _ := h3; (try dsimp only at h2); exfalso; omega) | (intro h1; have h2 : _ = _ := h1; exfalso; omega) | (intro h1; have h2 : _ ≤ _ := h1; exfalso; omega) | (intros; exfalso; (try dsimp only at *); omega) | (intro h1; exfalso; have h4 := h1.2; (try dsimp only at *); omega) | (intro x h1 h2; exact h2.1))
                  replace hb2 := hb2.chg gk9 (by first | (intro x h1 h2; exact h2) | (intro x h1 h2; have h3 : _ = _ := h2; subst h3; assumption) | (intro x h1 h2; have h3 : _ = _ := h2; exfalso; omega) | (intro b h1 h2 h3; have h4 : _ = _ := h3; (try dsimp only at h2); exfalso; omega) | (intro h1; have h2 : _ = _ := h1; exfalso; omega) | (intro h1; have h2 : _ ≤ _ := h1; exfalso; omega) | (intros; exfalso; (try dsimp only at *); omega) | (intro h1; exfalso; have h4 := h1.2; (try dsimp only at *); omega) | (intro x h1 h2; exact h2.1))
                  replace hw := hw.chg gk9 (by first | (intro x h1 h2; exact h2) | (intro x h1 h2; have h3 : _ = _ := h2; subst h3; assumption) | (intro x h1 h2; have h3 : _ = _ := h2; exfalso; omega) | (intro b h1 h2 h3; have h4 : _ = _ := h3; (try dsimp only at h2); exfalso; omega) | (intro h1; have h2 : _ = _ := h1; exfalso; omega) | (intro h1; have h2 : _ ≤ _ := h1; exfalso; omega) | (intros; exfalso; (try dsimp only at *); omega) | (intro h1; exfalso; have h4 := h1.2; (try dsimp only at *); omega) | (intro x h1 h2; exact h2.1))
                  replace hSt := hSt.chg gk9 (by first | (intro x h1 h2; exact h2) | (intro x h1 h2; have h3 : _ = _ := h2; subst h3; assumption) | (intro x h1 h2; have h3 : _ = _ := h2; exfalso; omega) | (intro b h1 h2 h3; have h4 : _ = _ := h3; (try dsimp only at h2); exfalso; omega) | (intro h1; have h2 : _ = _ := h1; exfalso; omega) | (intro h1; have h2 : _ ≤ _ := h1; exfalso; omega) | (intros; exfalso; (try dsimp only at *); omega) | (intro h1; exfalso; have h4 := h1.2; (try dsimp only at *); omega) | (intro x h1 h2; exact h2.1))
                  replace hFr := hFr.chg gk9 (by first | (intro x h1 h2; exact h2) | (intro x h1 h2; have h3 : _ = _ := h2; subst h3; assumption) | (intro x h1 h2; have h3 : _ = _ := h2; exfalso; omega) | (intro b h1 h2 h3; have h4 : _ = _ := h3; (try dsimp only at h2); exfalso; omega) | (intro h1; have h2 : _ = _ := h1; exfalso; omega) | (intro h1; have h2 : _ ≤ _ := h1; exfalso; omega) | (intros; exfalso; (try dsimp only at *); omega) | (intro h1; exfalso; have h4 := h1.2; (try dsimp only at *); omega) | (intro x h1 h2; exact h2.1))
                  replace hDe := hDe.chg gk9 (by first | (intro x h1 h2; exact h2) | (intro x h1 h2; have h3 : _ = _ := h2; subst h3; assumption) | (intro x h1 h2; have h3 : _ = _ := h2; exfalso; omega) | (intro b h1 h2 h3; have h4 : _ = _ := h3; (try dsimp only at h2); exfalso; omega) | (intro h1; have h2 : _ = _ := h1; exfalso; omega) | (intro h1; have h2 : _ ≤ _ := h1; exfalso; omega) | (intros; exfalso; (try dsimp only at *); omega) | (intro h1; exfalso; have h4 := h1.2; (try dsimp only at *); omega) | (intro x h1 h2; exact h2.1))
                  replace hIn := hIn.chg gk9 (by first | (intro x h1 h2; exact h2) | (intro x h1 h2; have h3 : _ = _ := h2; subst h3; assumption) | (intro x h1 h2; have h3 : _ = _ := h2; exfalso; omega) | (intro b h1 h2 h3; have h4 : _ = _ := h3; (try dsimp only at h2); exfalso; omega) | (intro h1; have h2 : _ = _ := h1; exfalso; omega) | (intro h1; have h2 : _ ≤ _ := h1; exfalso; omega) | (intros; exfalso; (try dsimp only at *); omega) | (intro h1; exfalso; have h4 := h1.2; (try dsimp only at *); omega) | (intro x h1 h2; exact h2.1))
                  replace hb12 := hb12.chg gk9 (by first | (intro x h1 h2; exact h2) | (intro x h1 h2; have h3 : _ = _ := h2; subst h3; assumption) | (intro x h1 h2; have h3 : _ = _ := h2; exfalso; omega) | (intro b h1 h2 h3; have h4 : _ = _ := h3; (try dsimp only at h2); exfalso; omega) | (intro h1; have h2 : _ = _ := h1; exfalso; omega) | (intro h1; have h2 : _ ≤ _ := h1; exfalso; omega) | (intros; exfalso; (try dsimp only at *); omega) | (intro h1; exfalso; have h4 := h1.2; (try dsimp only at *); omega) | (intro x h1 h2; exact h2.1))
                  replace hWn := hWn.chg gk9 (by first | (intro x h1 h2; exact h2) | (intro x h1 h2; have h3 : _ = _ := h2; subst h3; assumption) | (intro x h1 h2; have h3 : _ = _ := h2; exfalso; omega) | (intro b h1 h2 h3; have h4 : _ = _ := h3; (try dsimp only at h2); exfalso; omega) | (intro h1; have h2 : _ = _ := h1; exfalso; omega) | (intro h1; have h2 : _ ≤ _ := h1; exfalso; omega) | (intros; exfalso; (try dsimp only at *); omega) | (intro h1; exfalso; have h4 := h1.2; (try dsimp only at *); omega) | (intro x h1 h2; exact h2.1))
                  replace hd_6 := hd_6.chg gk9 (by first | (intro x h1 h2; exact h2) | (intro x h1 h2; have h3 : _ = _ := h2; subst h3; assumption) | (intro x h1 h2; have h3 : _ = _ := h2; exfalso; omega) | (intro b h1 h2 h3; have h4 : _ = _ := h3; (try dsimp only at h2); exfalso; omega) | (intro h1; have h2 : _ = _ := h1; exfalso; omega) | (intro h1; have h2 : _ ≤ _ := h1; exfalso; omega) | (intros; exfalso; (try dsimp only at *); omega) | (intro h1; exfalso; have h4 := h1.2; (try dsimp only at *); omega) | (intro x h1 h2; exact h2.1))
                  refine WL.nil (WX.one ⟨hd_6, ?_⟩)
                  refine ⟨?_, trivial⟩
                  refine DT.step [(116, _), (115, _)] rfl ⟨rfl, rfl, trivial⟩ rfl (fun wq_17 kq_17 => ?_)
                  have zs_kq_17 := kq_17.size
                  replace hb7 := hb7.pure kq_17
                  replace hb2 := hb2.pure kq_17
                  replace hw := hw.pure kq_17
                  replace hSt := hSt.pure kq_17
                  replace hFr := hFr.pure kq_17
                  replace hDe := hDe.pure kq_17
                  replace hIn := hIn.pure kq_17
                  replace hb12 := hb12.pure kq_17
                  replace hWn := hWn.pure kq_17
                  replace hd_6 := hd_6.pure kq_17
                  replace hR9 := hR9.pure kq_17
                  refine WL.store Try.sizeOf22 hb12 rfl rfl rfl rfl ?_
                  intro w_18 hs_18 hn_18 k_18
                  have zs_k_18 := k_18.size
                  replace hb7 := hb7.chg k_18 (by first | (intro x h1 h2; exact h2) | (intro x h1 h2; have h3 : _ = _ := h2; subst h3; assumption) | (intro x h1 h2; have h3 : _ = _ := h2; exfalso; omega) | (intro b h1 h2 h3; have h4 : _ = _ := h3; (try dsimp only at h2); exfalso; omega) | (intro h1; have h2 : _ = _ := h1; exfalso; omega) | (intro h1; have h2 : _ ≤ _ := h1; exfalso; omega) | (intros; exfalso; (try dsimp only at *); omega) | (intro h1; exfalso; have h4 := h1.2; (try dsimp only at *); omega) | (intro x h1 h2; exact h2.1))
                  replace hb2 := hb2.chg k_18 (by first | (intro x h1 h2; exact h2) | (intro x h1 h2; have h3 : _ = _ := h2; subst h3; assumption) | (intro x h1 h2; have h3 : _ = _ := h2; exfalso; omega) | (intro b h1 h2 h3; have h4 : _ = _ := h3; (try dsimp only at h2); exfalso; omega) | (intro h1; have h2 : _ = _ := h1; exfalso; omega) | (intro h1; have h2 : _ ≤ _ := h1; exfalso; omega) | (intros; exfalso; (try dsimp only at *); omega) | (intro h1; exfalso; have h4 := h1.2; (try dsimp only at *); omega) | (intro x h1 h2; exact h2.1))
                  replace hw := hw.chg k_18 (by first | (intro x h1 h2; exact h2) | (intro x h1 h2; have h3 : _ = _ := h2; subst h3; assumption) | (intro x h1 h2; have h3 : _ = _ := h2; exfalso; omega) | (intro b h1 h2 h3; have h4 : _ = _ := h3; (try dsimp only at h2); exfalso; omega) | (intro h1; have h2 : _ = _ := h1; exfalso; omega) | (intro h1; have h2 : _ ≤ _ := h1; exfalso; omega) | (intros; exfalso; (try dsimp only at *); omega) | (intro h1; exfalso; have h4 := h1.2; (try dsimp only at *); omega) | (intro x h1 h2; exact h2.1))
                  replace hSt := hSt.chg k_18 (by first | (intro x h1 h2; exact h2) | (intro x h1 h2; have h3 : _ = _ := h2; subst h3; assumption) | (intro x h1 h2; have h3 : _ = _ := h2; exfalso; omega) | (intro b h1 h2 h3; have h4 : _ = _ := h3; (try dsimp only at h2); exfalso; omega) | (intro h1; have h2 : _ = _ := h1; exfalso; omega) | (intro h1; have h2 : _ ≤ _ := h1; exfalso; omega) | (intros; exfalso; (try dsimp only at *); omega) | (intro h1; exfalso; have h4 := h1.2; (try dsimp only at *); omega) | (intro x h1 h2; exact h2.1))
                  replace hFr := hFr.chg k_18 (by first | (intro x h1 h2; exact h2) | (intro x h1 h2; have h3 : _ = _ := h2; subst h3; assumption) | (intro x h1 h2; have h3 : _ = _ := h2; exfalso; omega) | (intro b h1 h2 h3; have h4 : _ = _ := h3; (try dsimp only at h2); exfalso; omega) | (intro h1; have h2 : _ = _ := h1; exfalso; omega) | (intro h1; have h2 : _ ≤ _ := h1; exfalso; omega) | (intros; exfalso; (try dsimp only at *); omega) | (intro h1; exfalso; have h4 := h1.2; (try dsimp only at *); omega) | (intro x h1 h2; exact h2.1))
                  replace hDe := hDe.chg k_18 (by first | (intro x h1 h2; exact h2) | (intro x h1 h2; have h3 : _ = _ := h2; subst h3; assumption) | (intro x h1 h2; have h3 : _ = _ := h2; exfalso; omega) | (intro b h1 h2 h3; have h4 : _ = _ := h3; (try dsimp only at h2); exfalso; omega) | (intro h1; have h2 : _ = _ := h1; exfalso; omega) | (intro h1; have h2 : _ ≤ _ := h1; exfalso; omega) | (intros; exfalso; (try dsimp only at *); omega) | (intro h1; exfalso; have h4 := h1.2; (try dsimp only at *); omega) | (intro x h1 h2; exact h2.1))
                  replace hIn := hIn.chg k_18 (by first | (intro x h1 h2; exact h2) | (intro x h1 h2; have h3 : _ = _ := h2; subst h3; assumption) | (intro x h1 h2; have h3 : _ = _ := h2; exfalso; omega) | (intro b h1 h2 h3; have h4 : _ = _ := h3; (try dsimp only at h2); exfalso; omega) | (intro h1; have h2 : _ = _ := h1; exfalso; omega) | (intro h1; have h2 : _ ≤ _ := h1; exfalso; omega) | (intros; exfalso; (try dsimp only at *); omega) | (intro h1; exfalso; have h4 := h1.2; (try dsimp only at *); omega) | (intro x h1 h2; exact h2.1))
                  replace hWn := hWn.chg k_18 (by first | (intro x h1 h2; exact h2) | (intro x h1 h2; have h3 : _ = _ := h2; subst h3; assumption) | (intro x h1 h2; have h3 : _ = _ := h2; exfalso; omega) | (intro b h1 h2 h3; have h4 : _ = _ := h3; (try dsimp only at h2); exfalso; omega) | (intro h1; have h2 : _ = _ := h1; exfalso; omega) | (intro h1; have h2 : _ ≤ _ := h1; exfalso; omega) | (intros; exfalso; (try dsimp only at *); omega) | (intro h1; exfalso; have h4 := h1.2; (try dsimp only at *); omega) | (intro x h1 h2; exact h2.1))
                  replace hd_6 := hd_6.chg k_18 (by first | (intro x h1 h2; exact h2) | (intro x h1 h2; have h3 : _ = _ := h2; subst h3; assumption) | (intro x h1 h2; have h3 : _ = _ := h2; exfalso; omega) | (intro b h1 h2 h3; have h4 : _ = _ := h3; (try dsimp only at h2); exfalso; omega) | (intro h1; have h2 : _ = _ := h1; exfalso; omega) | (intro h1; have h2 : _ ≤ _ := h1; exfalso; omega) | (intros; exfalso; (try dsimp only at *); omega) | (intro h1; exfalso; have h4 := h1.2; (try dsimp only at *); omega) | (intro x h1 h2; exact h2.1))
                  replace hR9 := hR9.chg k_18 (by first | (intro x h1 h2; exact h2) | (intro x h1 h2; have h3 : _ = _ := h2; subst h3; assumption) | (intro x h1 h2; have h3 : _ = _ := h2; exfalso; omega) | (intro b h1 h2 h3; have h4 : _ = _ := h3; (try dsimp only at h2); exfalso; omega) | (intro h1; have h2 : _ = _ := h1; exfalso; omega) | (intro h1; have h2 : _ ≤ _ := h1; exfalso; omega) | (intros; exfalso; (try dsimp only at *); omega) | (intro h1; exfalso; have h4 := h1.2; (try dsimp only at *); omega) | (intro x h1 h2; exact h2.1))
                  replace hb12 := hn_18
                  refine WL.nil (WX.one0 (v := undef) ⟨hd_6, ?_⟩)
                  refine DT.done (fun we_19 ke_19 => ?_) _
                  have zs_ke_19 := ke_19.size
                  replace hb7 := hb7.pure ke_19
                  replace hb2 := hb2.pure ke_19
                  replace hw := hw.pure ke_19
                  replace hSt := hSt.pure ke_19
                  replace hFr := hFr.pure ke_19
                  replace hDe := hDe.pure ke_19
                  replace hIn := hIn.pure ke_19
                  replace hb12 := hb12.pure ke_19
                  replace hWn := hWn.pure ke_19
                  replace hd_6 := hd_6.pure ke_19
                  replace hR9 := hR9.pure ke_19
                  rotate_left
                  refine DT.step [(113, _)] rfl ⟨rfl, trivial⟩ rfl (fun wq_14 kq_14 => ?_)
                  have zs_kq_14 := kq_14.size
                  replace hb7 := hb7.pure kq_14
                  replace hb2 := hb2.pure kq_14
                  replace hw := hw.pure kq_14
                  replace hSt := hSt.pure kq_14
                  replace hFr := hFr.pure kq_14
                  replace hDe := hDe.pure kq_14
                  replace hIn := hIn.pure kq_14
                  replace hb12 := hb12.pure kq_14
                  replace hOut := hOut.pure kq_14
                  replace hWn := hWn.pure kq_14
                  replace hd_6 := hd_6.pure kq_14
                  refine WL.build (e := esn) [y] Try.underlying22 Try.sizeOf72 Try.zeroValue72 rfl rfl rfl (by first | (simp [Value.cells]; done) | (simp [Value.cells] <;> rfl) | (simp [Value.cells, eb, ei, es, ebool, e32, e64]; done)) (by decide) rfl ?_
                  intro a_hq w_hq hq l_hq z_hq k_hq
                  have zs_k_hq := k_hq.size
                  replace hb7 := hb7.pure k_hq
                  replace hb2 := hb2.pure k_hq
                  replace hw := hw.pure k_hq
                  replace hSt := hSt.pure k_hq
                  replace hFr := hFr.pure k_hq
                  replace hDe := hDe.pure k_hq
                  replace hIn := hIn.pure k_hq
                  replace hb12 := hb12.pure k_hq
                  replace hOut := hOut.pure k_hq
                  replace hWn := hWn.pure k_hq
                  replace hd_6 := hd_6.pure k_hq
                  refine WL.nil (WX.one ⟨hd_6, ?_⟩)
                  refine ⟨?_, trivial, trivial, trivial⟩
                  refine DT.step [(107, _)] rfl ⟨rfl, trivial⟩ rfl (fun wq_15 kq_15 => ?_)
                  have zs_kq_15 := kq_15.size
                  replace hb7 := hb7.pure kq_15
                  replace hb2 := hb2.pure kq_15
                  replace hw := hw.pure kq_15
                  replace hSt := hSt.pure kq_15
                  replace hFr := hFr.pure kq_15
                  replace hDe := hDe.pure kq_15
                  replace hIn := hIn.pure kq_15
                  replace hb12 := hb12.pure kq_15
                  replace hOut := hOut.pure kq_15
                  replace hWn := hWn.pure kq_15
                  replace hd_6 := hd_6.pure kq_15
                  replace hq := hq.pure kq_15
                  refine WL.loadB Try.isAgg22 hb12 rfl rfl rfl (?_)
                  refine WL.nil (WX.one ⟨hd_6, ?_⟩)
                  refine ⟨?_, trivial, trivial⟩
                  refine DT.step [(108, _), (114, _)] rfl ⟨rfl, rfl, trivial⟩ rfl (fun wq_16 kq_16 => ?_)
                  have zs_kq_16 := kq_16.size
                  replace hb7 := hb7.pure kq_16
                  replace hb2 := hb2.pure kq_16
                  replace hw := hw.pure kq_16
                  replace hSt := hSt.pure kq_16
                  replace hFr := hFr.pure kq_16
                  replace hDe := hDe.pure kq_16
                  replace hIn := hIn.pure kq_16
                  replace hb12 := hb12.pure kq_16
                  replace hOut := hOut.pure kq_16
                  replace hWn := hWn.pure kq_16
                  replace hd_6 := hd_6.pure kq_16
                  replace hq := hq.pure kq_16
                  refine WL.append (e := esn) info_72 rfl Try.underlying22 rfl rfl hOut (hq.rsl.src Try.underlying22) (by constructor <;> (simp only [List.length_cons, List.length_nil]; omega)) (fun x hx => by omega) rfl ?_
                  intro as9 cs9 w9 hR9 gg9 n9
                  have gk9 := gg9.chg.mono (fun x _ hx => hx.2)
                  have zs_gk9 := gk9.size
                  replace hb7 := hb7.chg gk9 (by first | (intro x h1 h2; exact h2) | (intro x h1 h2; have h3 : _ = _ := h2; subst h3; assumption) | (intro x h1 h2; have h3 : _ = _ := h2; exfalso; omega) | (intro b h1 h2 h3; have h4 : _ = _ := h3; (try dsimp only at h2); exfalso; omega) | (intro h1; have h2 : _ = _ := h1; exfalso; omega) | (intro h1; have h2 : _ ≤ _ := h1; exfalso; omega) | (intros; exfalso; (try dsimp only at *); omega) | (intro h1; exfalso; have h4 := h1.2; (try dsimp only at *); omega) | (intro x h1 h2; exact h2.1))
                  replace hb2 := hb2.chg gk9 (by first | (intro x h1 h2; exact h2) | (intro x h1 h2; have h3 : _ = _ := h2; subst h3; assumption) | (intro x h1 h2; have h3 : _ = _ := h2; exfalso; omega) | (intro b h1 h2 h3; have h4 : _ = _ := h3; (try dsimp only at h2); exfalso; omega) | (intro h1; have h2 : _ = _ := h1; exfalso; omega) | (intro h1; have h2 : _ ≤ _ := h1; exfalso; omega) | (intros; exfalso; (try dsimp only at *); omega) | (intro h1; exfalso; have h4 := h1.2; (try dsimp only at *); omega) | (intro x h1 h2; exact h2.1))
                  replace hw := hw.chg gk9 (by first | (intro x h1 h2; exact h2) | (intro x h1 h2; have h3 : _ = _ := h2; subst h3; assumption) | (intro x h1 h2; have h3 : _ = _ := h2; exfalso; omega) | (intro b h1 h2 h3; have h4 : _ = _ := h3; (try dsimp only at h2); exfalso; omega) | (intro h1; have h2 : _ = _ := h1; exfalso; omega) | (intro h1; have h2 : _ ≤ _ := h1; exfalso; omega) | (intros; exfalso; (try dsimp only at *); omega) | (intro h1; exfalso; have h4 := h1.2; (try dsimp only at *); omega) | (intro x h1 h2; exact h2.1))
                  replace hSt := hSt.chg gk9 (by first | (intro x h1 h2; exact h2) | (intro x h1 h2; have h3 : _ = _ := h2; subst h3; assumption) | (intro x h1 h2; have h3 : _ = _ := h2; exfalso; omega) | (intro b h1 h2 h3; have h4 : _ = _ := h3; (try dsimp only at h2); exfalso; omega) | (intro h1; have h2 : _ = _ := h1; exfalso; omega) | (intro h1; have h2 : _ ≤ _ := h1; exfalso; omega) | (intros; exfalso; (try dsimp only at *); omega) | (intro h1; exfalso; have h4 := h1.2; (try dsimp only at *); omega) | (intro x h1 h2; exact h2.1))
                  replace hFr := hFr.chg gk9 (by first | (intro x h1 h2; exact h2) | (intro x h1 h2; have h3 : _ = _ := h2; subst h3; assumption) | (intro x h1 h2; have h3 : _ = _ := h2; exfalso; omega) | (intro b h1 h2 h3; have h4 : _ = _ := h3; (try dsimp only at h2); exfalso; omega) | (intro h1; have h2 : _ = _ := h1; exfalso; omega) | (intro h1; have h2 : _ ≤ _ := h1; exfalso; omega) | (intros; exfalso; (try dsimp only at *); omega) | (intro h1; exfalso; have h4 := h1.2; (try dsimp only at *); omega) | (intro x h1 h2; exact h2.1))
                  replace hDe := hDe.chg gk9 (by first | (intro x h1 h2; exact h2) | (intro x h1 h2; have h3 : _ = _ := h2; subst h3; assumption) | (intro x h1 h2; have h3 : _ = _ := h2; exfalso; omega) | (intro b h1 h2 h3; have h4 : _ = _ := h3; (try dsimp only at h2); exfalso; omega) | (intro h1; have h2 : _ = _ := h1; exfalso; omega) | (intro h1; have h2 : _ ≤ _ := h1; exfalso; omega) | (intros; exfalso; (try dsimp only at *); omega) | (intro h1; exfalso; have h4 := h1.2; (try dsimp only at *); omega) | (intro x h1 h2; exact h2.1))
                  replace hIn := hIn.chg gk9 (by first | (intro x h1 h2; exact h2) | (intro x h1 h2; have h3 : _ = _ := h2; subst h3; assumption) | (intro x h1 h2; have h3 : _ = _ := h2; exfalso; omega) | (intro b h1 h2 h3; have h4 : _ = _ := h3; (try dsimp only at h2); exfalso; omega) | (intro h1; have h2 : _ = _ := h1; exfalso; omega) | (intro h1; have h2 : _ ≤ _ := h1; exfalso; omega) | (intros; exfalso; (try dsimp only at *); omega) | (intro h1; exfalso; have h4 := h1.2; (try dsimp only at *); omega) | (intro x h1 h2; exact h2.1))
                  replace hb12 := hb12.chg gk9 (by first | (intro x h1 h2; exact h2) | (intro x h1 h2; have h3 : _ = _ := h2; subst h3; assumption) | (intro x h1 h2; have h3 : _ = _ := h2; exfalso; omega) | (intro b h1 h2 h3; have h4 : _ = _ := h3; (try dsimp only at h2); exfalso; omega) | (intro h1; have h2 : _ = _ := h1; exfalso; omega) | (intro h1; have h2 : _ ≤ _ := h1; exfalso; omega) | (intros; exfalso; (try dsimp only at *); omega) | (intro h1; exfalso; have h4 := h1.2; (try dsimp only at *); omega) | (intro x h1 h2; exact h2.1))
                  replace hWn := hWn.chg gk9 (by first | (intro x h1 h2; exact h2) | (intro x h1 h2; have h3 : _ = _ := h2; subst h3; assumption) | (intro x h1 h2; have h3 : _ = _ := h2; exfalso; omega) | (intro b h1 h2 h3; have h4 : _ = _ := h3; (try dsimp only at h2); exfalso; omega) | (intro h1; have h2 : _ = _ := h1; exfalso; omega) | (intro h1; have h2 : _ ≤ _ := h1; exfalso; omega) | (intros; exfalso; (try dsimp only at *); omega) | (intro h1; exfalso; have h4 := h1.2; (try dsimp only at *); omega) | (intro x h1 h2; exact h2.1))
                  replace hd_6 := hd_6.chg gk9 (by first | (intro x h1 h2; exact h2) | (intro x h1 h2; have h3 : _ = _ := h2; subst h3; assumption) | (intro x h1 h2; have h3 : _ = _ := h2; exfalso; omega) | (intro b h1 h2 h3; have h4 : _ = _ := h3; (try dsimp only at h2); exfalso; omega) | (intro h1; have h2 : _ = _ := h1; exfalso; omega) | (intro h1; have h2 : _ ≤ _ := h1; exfalso; omega) | (intros; exfalso; (try dsimp only at *); omega) | (intro h1; exfalso; have h4 := h1.2; (try dsimp only at *); omega) | (intro x h1 h2; exact h2.1))
                  refine WL.nil (WX.one ⟨hd_6, ?_⟩)
                  refine ⟨?_, trivial⟩
                  refine DT.step [(116, _), (115, _)] rfl ⟨rfl, rfl, trivial⟩ rfl (fun wq_17 kq_17 => ?_)
                  have zs_kq_17 := kq_17.size
                  replace hb7 := hb7.pure kq_17
                  replace hb2 := hb2.pure kq_17
                  replace hw := hw.pure kq_17
                  replace hSt := hSt.pure kq_17
                  replace hFr := hFr.pure kq_17
                  replace hDe := hDe.pure kq_17
                  replace hIn := hIn.pure kq_17
                  replace hb12 := hb12.pure kq_17
                  replace hWn := hWn.pure kq_17
                  replace hd_6 := hd_6.pure kq_17
                  replace hR9 := hR9.pure kq_17
                  refine WL.store Try.sizeOf22 hb12 rfl rfl rfl rfl ?_
                  intro w_18 hs_18 hn_18 k_18
                  have zs_k_18 := k_18.size
                  replace hb7 := hb7.chg k_18 (by first | (intro x h1 h2; exact h2) | (intro x h1 h2; have h3 : _ = _ := h2; subst h3; assumption) | (intro x h1 h2; have h3 : _ = _ := h2; exfalso; omega) | (intro b h1 h2 h3; have h4 : _ = _ := h3; (try dsimp only at h2); exfalso; omega) | (intro h1; have h2 : _ = _ := h1; exfalso; omega) | (intro h1; have h2 : _ ≤ _ := h1; exfalso; omega) | (intros; exfalso; (try dsimp only at *); omega) | (intro h1; exfalso; have h4 := h1.2; (try dsimp only at *); omega) | (intro x h1 h2; exact h2.1))
                  replace hb2 := hb2.chg k_18 (by first | (intro x h1 h2; exact h2) | (intro x h1 h2; have h3 : _ = _ := h2; subst h3; assumption) | (intro x h1 h2; have h3 : _ = _ := h2; exfalso; omega) | (intro b h1 h2 h3; have h4 : _ = _ := h3; (try dsimp only at h2); exfalso; omega) | (intro h1; have h2 : _ = _ := h1; exfalso; omega) | (intro h1; have h2 : _ ≤ _ := h1; exfalso; omega) | (intros; exfalso; (try dsimp only at *); omega) | (intro h1; exfalso; have h4 := h1.2; (try dsimp only at *); omega) | (intro x h1 h2; exact h2.1))
                  replace hw := hw.chg k_18 (by first | (intro x h1 h2; exact h2) | (intro x h1 h2; have h3 : _ = _ := h2; subst h3; assumption) | (intro x h1 h2; have h3 : _ = _ := h2; exfalso; omega) | (intro b h1 h2 h3; have h4 : _ = _ := h3; (try dsimp only at h2); exfalso; omega) | (intro h1; have h2 : _ = _ := h1; exfalso; omega) | (intro h1; have h2 : _ ≤ _ := h1; exfalso; omega) | (intros; exfalso; (try dsimp only at *); omega) | (intro h1; exfalso; have h4 := h1.2; (try dsimp only at *); omega) | (intro x h1 h2; exact h2.1))
                  replace hSt := hSt.chg k_18 (by first | (intro x h1 h2; exact h2) | (intro x h1 h2; have h3 : _ = _ := h2; subst h3; assumption) | (intro x h1 h2; have h3 : _ = _ := h2; exfalso; omega) | (intro b h1 h2 h3; have h4 : _ = _ := h3; (try dsimp only at h2); exfalso; omega) | (intro h1; have h2 : _ = _ := h1; exfalso; omega) | (intro h1; have h2 : _ ≤ _ := h1; exfalso; omega) | (intros; exfalso; (try dsimp only at *); omega) | (intro h1; exfalso; have h4 := h1.2; (try dsimp only at *); omega) | (intro x h1 h2; exact h2.1))
                  replace hFr := hFr.chg k_18 (by first | (intro x h1 h2; exact h2) | (intro x h1 h2; have h3 : _ = _ := h2; subst h3; assumption) | (intro x h1 h2; have h3 : _ = _ := h2; exfalso; omega) | (intro b h1 h2 h3; have h4 : _ = _ := h3; (try dsimp only at h2); exfalso; omega) | (intro h1; have h2 : _ = _ := h1; exfalso; omega) | (intro h1; have h2 : _ ≤ _ := h1; exfalso; omega) | (intros; exfalso; (try dsimp only at *); omega) | (intro h1; exfalso; have h4 := h1.2; (try dsimp only at *); omega) | (intro x h1 h2; exact h2.1))
                  replace hDe := hDe.chg k_18 (by first | (intro x h1 h2; exact h2) | (intro x h1 h2; have h3 : _ = _ := h2; subst h3; assumption) | (intro x h1 h2; have h3 : _ = _ := h2; exfalso; omega) | (intro b h1 h2 h3; have h4 : _ = _ := h3; (try dsimp only at h2); exfalso; omega) | (intro h1; have h2 : _ = _ := h1; exfalso; omega) | (intro h1; have h2 : _ ≤ _ := h1; exfalso; omega) | (intros; exfalso; (try dsimp only at *); omega) | (intro h1; exfalso; have h4 := h1.2; (try dsimp only at *); omega) | (intro x h1 h2; exact h2.1))
                  replace hIn := hIn.chg k_18 (by first | (intro x h1 h2; exact h2) | (intro x h1 h2; have h3 : _ = _ := h2; subst h3; assumption) | (intro x h1 h2; have h3 : _ = _ := h2; exfalso; omega) | (intro b h1 h2 h3; have h4 : _ = _ := h3; (try dsimp only at h2); exfalso; omega) | (intro h1; have h2 : _ = _ := h1; exfalso; omega) | (intro h1; have h2 : _ ≤ _ := h1; exfalso; omega) | (intros; exfalso; (try dsimp only at *); omega) | (intro h1; exfalso; have h4 := h1.2; (try dsimp only at *); omega) | (intro x h1 h2; exact h2.1))
                  replace hWn := hWn.chg k_18 (by first | (intro x h1 h2; exact h2) | (intro x h1 h2; have h3 : _ = _ := h2; subst h3; assumption) | (intro x h1 h2; have h3 : _ = _ := h2; exfalso; omega) | (intro b h1 h2 h3; have h4 : _ = _ := h3; (try dsimp only at h2); exfalso; omega) | (intro h1; have h2 : _ = _ := h1; exfalso; omega) | (intro h1; have h2 : _ ≤ _ := h1; exfalso; omega) | (intros; exfalso; (try dsimp only at *); omega) | (intro h1; exfalso; have h4 := h1.2; (try dsimp only at *); omega) | (intro x h1 h2; exact h2.1))
                  replace hd_6 := hd_6.chg k_18 (by first | (intro x h1 h2; exact h2) | (intro x h1 h2; have h3 : _ = _ := h2; subst h3; assumption) | (intro x h1 h2; have h3 : _ = _ := h2; exfalso; omega) | (intro b h1 h2 h3; have h4 : _ = _ := h3; (try dsimp only at h2); exfalso; omega) | (intro h1; have h2 : _ = _ := h1; exfalso; omega) | (intro h1; have h2 : _ ≤ _ := h1; exfalso; omega) | (intros; exfalso; (try dsimp only at *); omega) | (intro h1; exfalso; have h4 := h1.2; (try dsimp only at *); omega) | (intro x h1 h2; exact h2.1))
                  replace hR9 := hR9.chg k_18 (by first | (intro x h1 h2; exact h2) | (intro x h1 h2; have h3 : _ = _ := h2; subst h3; assumption) | (intro x h1 h2; have h3 : _ = _ := h2; exfalso; omega) | (intro b h1 h2 h3; have h4 : _ = _ := h3; (try dsimp only at h2); exfalso; omega) | (intro h1; have h2 : _ = _ := h1; exfalso; omega) | (intro h1; have h2 : _ ≤ _ := h1; exfalso; omega) | (intros; exfalso; (try dsimp only at *); omega) | (intro h1; exfalso; have h4 := h1.2; (try dsimp only at *); omega) | (intro x h1 h2; exact h2.1))
                  replace hb12 := hn_18
                  refine WL.nil (WX.one0 (v := undef) ⟨hd_6, ?_⟩)
                  refine DT.done (fun we_19 ke_19 => ?_) _
                  have zs_ke_19 := ke_19.size
                  replace hb7 := hb7.pure ke_19
                  replace hb2 := hb2.pure ke_19
                  replace hw := hw.pure ke_19
                  replace hSt := hSt.pure ke_19
                  replace hFr := hFr.pure ke_19
                  replace hDe := hDe.pure ke_19
                  replace hIn := hIn.pure ke_19
                  replace hb12 := hb12.pure ke_19
                  replace hWn := hWn.pure ke_19
                  replace hd_6 := hd_6.pure ke_19
                  replace hR9 := hR9.pure ke_19
                  rotate_left
                  all_goals
                    refine WX.block_normal (WX.then_normal (WC.region (WL.move rfl rfl (WL.add64 rfl rfl (by first | omega | (constructor <;> omega)) rfl (WL.assign rfl rfl (WL.nil (?_)))))))
                    first
                      | (exfalso; omega)
                      | (have hh : ah < p.b := h67
                         have htk : nl.take (i + 1) = nl.take i ++ [p] := by rw [List.take_add_one, hp]; rfl
                         exact WX.loop_next (i + 1, (sao, sc2, st), (ao8, c8, fr ++ [p])) ⟨rfl, rfl, rfl, rfl, rfl, rfl, rfl, rfl, trivial⟩ ⟨⟨by show i + 1 ≤ _; omega, by omega⟩, hb7, hb1, hb2, h, hw, hO, hN, hSt8, hb8, hAp8, by rw [htk, List.filter_append, hst]; simp [hh], by rw [htk, List.filter_append, hfr]; simp [hh]⟩ (by show nl.length - (i + 1) < nl.length - i; omega))
                      | (have hh : ¬ ah < p.b := h67
                         have htk : nl.take (i + 1) = nl.take i ++ [p] := by rw [List.take_add_one, hp]; rfl
                         exact WX.loop_next (i + 1, (ao8, c8, st ++ [p]), (fao, fc, fr)) ⟨rfl, rfl, rfl, rfl, rfl, rfl, rfl, rfl, trivial⟩ ⟨⟨by show i + 1 ≤ _; omega, by omega⟩, hb7, hb1, hb2, h, hw, hO, hN, hb8, hFr8, hAp8, by rw [htk, List.filter_append, hst]; simp [hh], by rw [htk, List.filter_append, hfr]; simp [hh]⟩ (by show nl.length - (i + 1) < nl.length - i; omega))
                      | (have hne : j ≠ kk := by omega
                         have ho := outs_ne hy hne
                         exact WX.loop_next (j + 1, (as9, cs9)) ⟨rfl, rfl, rfl, rfl, rfl, rfl, rfl, trivial⟩ ⟨by show j + 1 ≤ _; omega, hb7, hb2, hw, hWn, hSt, hFr, hDe, hIn, by show Blk _ _ _ [vi ba, .slice as9 (outs full kk (j + 1)).length cs9, .slice da de.length dc]; rw [ho]; exact hb12, by show Row _ _ _ esn as9 cs9 (outs full kk (j + 1)); rw [ho]; exact hR9⟩ (by show sn.length - (j + 1) < sn.length - j; omega))
                      | (have hee : j = kk := by omega
                         have ho : outs full kk (j + 1) = outs full kk j := by rw [hee]; exact outs_eq (by omega)
                         have hms := mix_same hfl (j := j) (by
                           rcases hfull with ⟨x1, hx1, _, rfl⟩ | ⟨_, _, rfl⟩
                           ·
                             rw [List.getElem?_set_ne (by omega)]
                           ·
                             rfl) (by omega)
                         exact WX.loop_next (j + 1, (oao, oc)) ⟨rfl, rfl, rfl, rfl, rfl, rfl, rfl, trivial⟩ ⟨by show j + 1 ≤ _; omega, hb7, hb2, hw, by show Row _ _ _ esn _ sc (full.take (j + 1) ++ sn.drop (j + 1)); rw [← hms]; exact hSn, hSt, hFr, hDe, hIn, by show Blk _ _ _ [vi ba, .slice oao (outs full kk (j + 1)).length oc, .slice da de.length dc]; rw [ho]; exact hb12, by show Row _ _ _ esn oao oc (outs full kk (j + 1)); rw [ho]; exact hOut⟩ (by show sn.length - (j + 1) < sn.length - j; omega))
                ·
                  refine WL.nil (WX.then_normal (WC.cond_false rfl (WC.skip (WX.block_normal (WX.then_normal (WC.region (WL.move rfl rfl (?_))))))))
                  refine WL.add64 rfl rfl (by first | omega | (constructor <;> omega)) rfl (WL.assign rfl rfl (WL.nil (?_)))
                  first
                    | (exfalso; omega)
                    | (have hh : ah < p.b := h67
                       have htk : nl.take (i + 1) = nl.take i ++ [p] := by rw [List.take_add_one, hp]; rfl
                       exact WX.loop_next (i + 1, (sao, sc2, st), (ao8, c8, fr ++ [p])) ⟨rfl, rfl, rfl, rfl, rfl, rfl, rfl, rfl, trivial⟩ ⟨⟨by show i + 1 ≤ _; omega, by omega⟩, hb7, hb1, hb2, h, hw, hO, hN, hSt8, hb8, hAp8, by rw [htk, List.filter_append, hst]; simp [hh], by rw [htk, List.filter_append, hfr]; simp [hh]⟩ (by show nl.length - (i + 1) < nl.length - i; omega))
                    | (have hh : ¬ ah < p.b := h67
                       have htk : nl.take (i + 1) = nl.take i ++ [p] := by rw [List.take_add_one, hp]; rfl
                       exact WX.loop_next (i + 1, (ao8, c8, st ++ [p]), (fao, fc, fr)) ⟨rfl, rfl, rfl, rfl, rfl, rfl, rfl, rfl, trivial⟩ ⟨⟨by show i + 1 ≤ _; omega, by omega⟩, hb7, hb1, hb2, h, hw, hO, hN, hb8, hFr8, hAp8, by rw [htk, List.filter_append, hst]; simp [hh], by rw [htk, List.filter_append, hfr]; simp [hh]⟩ (by show nl.length - (i + 1) < nl.length - i; omega))
                    | (have hne : j ≠ kk := by omega
                       have ho := outs_ne hy hne
                       exact WX.loop_next (j + 1, (as9, cs9)) ⟨rfl, rfl, rfl, rfl, rfl, rfl, rfl, trivial⟩ ⟨by show j + 1 ≤ _; omega, hb7, hb2, hw, hWn, hSt, hFr, hDe, hIn, by show Blk _ _ _ [vi ba, .slice as9 (outs full kk (j + 1)).length cs9, .slice da de.length dc]; rw [ho]; exact hb12, by show Row _ _ _ esn as9 cs9 (outs full kk (j + 1)); rw [ho]; exact hR9⟩ (by show sn.length - (j + 1) < sn.length - j; omega))
                    | (have hee : j = kk := by omega
                       have ho : outs full kk (j + 1) = outs full kk j := by rw [hee]; exact outs_eq (by omega)
                       have hms := mix_same hfl (j := j) (by
                         rcases hfull with ⟨x1, hx1, _, rfl⟩ | ⟨_, _, rfl⟩
                         ·
                           rw [List.getElem?_set_ne (by omega)]
                         ·
                           rfl) (by omega)
                       exact WX.loop_next (j + 1, (oao, oc)) ⟨rfl, rfl, rfl, rfl, rfl, rfl, rfl, trivial⟩ ⟨by show j + 1 ≤ _; omega, hb7, hb2, hw, by show Row _ _ _ esn _ sc (full.take (j + 1) ++ sn.drop (j + 1)); rw [← hms]; exact hSn, hSt, hFr, hDe, hIn, by show Blk _ _ _ [vi ba, .slice oao (outs full kk (j + 1)).length oc, .slice da de.length dc]; rw [ho]; exact hb12, by show Row _ _ _ esn oao oc (outs full kk (j + 1)); rw [ho]; exact hOut⟩ (by show sn.length - (j + 1) < sn.length - j; omega))
              ·
                refine WL.nil (WX.then_normal (WC.cond_false rfl (WC.skip (WX.then_normal (WC.seq (WC.region (WL.move rfl rfl (?_))))))))
                refine WL.move rfl rfl (?_)
                refine WL.neq? rfl rfl rfl (fun h106 => ?_) (fun h106 => ?_)
                ·
                  refine WL.nil (WX.then_normal (WC.cond_true rfl (?_)))
                  obtain ⟨y, hy⟩ : ∃ y, full[j]? = some y := ⟨_, List.getElem?_eq_getElem (by omega)⟩
                  first
                    | have hWn := hW8
                    | (have hms := mix_same hfl (j := j) (by
                         rcases hfull with ⟨x1, hx1, _, rfl⟩ | ⟨_, _, rfl⟩
                         ·
                           rw [List.getElem?_set_ne (by omega)]
                         ·
                           rfl) (by omega)
                       have hWn := hSn
                       rw [hms] at hWn)
                  have hmixl : (full.take (j + 1) ++ sn.drop (j + 1)).length = sn.length := by simp only [List.length_append, List.length_take, List.length_drop]; omega
                  have hyn : (full.take (j + 1) ++ sn.drop (j + 1))[j]? = some y := by rw [List.getElem?_append_left (by rw [List.length_take]; omega), List.getElem?_take_of_lt (by omega)]; exact hy
                  have hM12 : nD ≤ g12 := by omega
                  refine WC.drawM ((fun x => nD ≤ x)) [0, 2, 3, 4, 5, 6, 9] [1, 7, 8, 10] mixed rfl rfl (fun wd_5 kd_5 zd_5 => ?_)
                  have zs_kd_5 := kd_5.size
                  replace hb7 := hb7.pure kd_5
                  replace hb2 := hb2.pure kd_5
                  replace hw := hw.pure kd_5
                  replace hSt := hSt.pure kd_5
                  replace hFr := hFr.pure kd_5
                  replace hDe := hDe.pure kd_5
                  replace hIn := hIn.pure kd_5
                  replace hb12 := hb12.pure kd_5
                  replace hOut := hOut.pure kd_5
                  replace hWn := hWn.pure kd_5
                  apply DQT.step (E' := [(12, _)])
                  case ho => rfl
                  case hs => exact ⟨rfl, trivial⟩
                  case hk => rfl
                  case h1 =>
                    intro wq_7 kq_7
                    refine WL.fieldAddr (fld_25_1) rfl rfl (?_)
                    refine WL.nil ?_
                    exact WX.one ⟨rfl, by first | exact Chg.refl _ _ | assumption⟩
                  apply DQT.step (E' := [(7, _)])
                  case ho => rfl
                  case hs => exact ⟨rfl, trivial⟩
                  case hk => rfl
                  case h1 =>
                    intro wq_8 kq_8
                    refine WL.fieldAddr (fld_25_1) rfl rfl (?_)
                    refine WL.nil ?_
                    exact WX.one ⟨rfl, by first | exact Chg.refl _ _ | assumption⟩
                  apply DQT.step (E' := [(109, _)])
                  case ho => rfl
                  case hs => exact ⟨rfl, trivial⟩
                  case hk => rfl
                  case h1 =>
                    intro wq_9 kq_9
                    have zs_kq_9 := kq_9.size
                    replace hb7 := hb7.chg kq_9 (by first | (intro x h1 h2; exact h2) | (intro x h1 h2; have h3 : _ = _ := h2; subst h3; assumption) | (intro x h1 h2; have h3 : _ = _ := h2; exfalso; omega) | (intro b h1 h2 h3; have h4 : _ = _ := h3; (try dsimp only at h2); exfalso; omega) | (intro h1; have h2 : _ = _ := h1; exfalso; omega) | (intro h1; have h2 : _ ≤ _ := h1; exfalso; omega) | (intros; exfalso; (try dsimp only at *); omega) | (intro h1; exfalso; have h4 := h1.2; (try dsimp only at *); omega) | (intro x h1 h2; exact h2.1))
                    replace hb2 := hb2.chg kq_9 (by first | (intro x h1 h2; exact h2) | (intro x h1 h2; have h3 : _ = _ := h2; subst h3; assumption) | (intro x h1 h2; have h3 : _ = _ := h2; exfalso; omega) | (intro b h1 h2 h3; have h4 : _ = _ := h3; (try dsimp only at h2); exfalso; omega) | (intro h1; have h2 : _ = _ := h1; exfalso; omega) | (intro h1; have h2 : _ ≤ _ := h1; exfalso; omega) | (intros; exfalso; (try dsimp only at *); omega) | (intro h1; exfalso; have h4 := h1.2; (try dsimp only at *); omega) | (intro x h1 h2; exact h2.1))
                    replace hw := hw.chg kq_9 (by first | (intro x h1 h2; exact h2) | (intro x h1 h2; have h3 : _ = _ := h2; subst h3; assumption) | (intro x h1 h2; have h3 : _ = _ := h2; exfalso; omega) | (intro b h1 h2 h3; have h4 : _ = _ := h3; (try dsimp only at h2); exfalso; omega) | (intro h1; have h2 : _ = _ := h1; exfalso; omega) | (intro h1; have h2 : _ ≤ _ := h1; exfalso; omega) | (intros; exfalso; (try dsimp only at *); omega) | (intro h1; exfalso; have h4 := h1.2; (try dsimp only at *); omega) | (intro x h1 h2; exact h2.1))
                    replace hSt := hSt.chg kq_9 (by first | (intro x h1 h2; exact h2) | (intro x h1 h2; have h3 : _ = _ := h2; subst h3; assumption) | (intro x h1 h2; have h3 : _ = _ := h2; exfalso; omega) | (intro b h1 h2 h3; have h4 : _ = _ := h3; (try dsimp only at h2); exfalso; omega) | (intro h1; have h2 : _ = _ := h1; exfalso; omega) | (intro h1; have h2 : _ ≤ _ := h1; exfalso; omega) | (intros; exfalso; (try dsimp only at *); omega) | (intro h1; exfalso; have h4 := h1.2; (try dsimp only at *); omega) | (intro x h1 h2; exact h2.1))
                    replace hFr := hFr.chg kq_9 (by first | (intro x h1 h2; exact h2) | (intro x h1 h2; have h3 : _ = _ := h2; subst h3; assumption) | (intro x h1 h2; have h3 : _ = _ := h2; exfalso; omega) | (intro b h1 h2 h3; have h4 : _ = _ := h3; (try dsimp only at h2); exfalso; omega) | (intro h1; have h2 : _ = _ := h1; exfalso; omega) | (intro h1; have h2 : _ ≤ _ := h1; exfalso; omega) | (intros; exfalso; (try dsimp only at *); omega) | (intro h1; exfalso; have h4 := h1.2; (try dsimp only at *); omega) | (intro x h1 h2; exact h2.1))
                    replace hDe := hDe.chg kq_9 (by first | (intro x h1 h2; exact h2) | (intro x h1 h2; have h3 : _ = _ := h2; subst h3; assumption) | (intro x h1 h2; have h3 : _ = _ := h2; exfalso; omega) | (intro b h1 h2 h3; have h4 : _ = _ := h3; (try dsimp only at h2); exfalso; omega) | (intro h1; have h2 : _ = _ := h1; exfalso; omega) | (intro h1; have h2 : _ ≤ _ := h1; exfalso; omega) | (intros; exfalso; (try dsimp only at *); omega) | (intro h1; exfalso; have h4 := h1.2; (try dsimp only at *); omega) | (intro x h1 h2; exact h2.1))
                    replace hIn := hIn.chg kq_9 (by first | (intro x h1 h2; exact h2) | (intro x h1 h2; have h3 : _ = _ := h2; subst h3; assumption) | (intro x h1 h2; have h3 : _ = _ := h2; exfalso; omega) | (intro b h1 h2 h3; have h4 : _ = _ := h3; (try dsimp only at h2); exfalso; omega) | (intro h1; have h2 : _ = _ := h1; exfalso; omega) | (intro h1; have h2 : _ ≤ _ := h1; exfalso; omega) | (intros; exfalso; (try dsimp only at *); omega) | (intro h1; exfalso; have h4 := h1.2; (try dsimp only at *); omega) | (intro x h1 h2; exact h2.1))
                    replace hWn := hWn.chg kq_9 (by first | (intro x h1 h2; exact h2) | (intro x h1 h2; have h3 : _ = _ := h2; subst h3; assumption) | (intro x h1 h2; have h3 : _ = _ := h2; exfalso; omega) | (intro b h1 h2 h3; have h4 : _ = _ := h3; (try dsimp only at h2); exfalso; omega) | (intro h1; have h2 : _ = _ := h1; exfalso; omega) | (intro h1; have h2 : _ ≤ _ := h1; exfalso; omega) | (intros; exfalso; (try dsimp only at *); omega) | (intro h1; exfalso; have h4 := h1.2; (try dsimp only at *); omega) | (intro x h1 h2; exact h2.1))
                    refine WL.loadB Try.isAgg22 hb7 rfl rfl rfl (?_)
                    refine WL.nil ?_
                    exact WX.one ⟨rfl, by first | exact Chg.refl _ _ | assumption⟩
                  apply DQT.step (E' := [(13, _)])
                  case ho => rfl
                  case hs => exact ⟨rfl, trivial⟩
                  case hk => rfl
                  case h1 =>
                    intro wq_10 kq_10
                    refine WL.move rfl rfl (?_)
                    refine WL.nil ?_
                    exact WX.one ⟨rfl, by first | exact Chg.refl _ _ | assumption⟩
                  apply DQT.step (E' := [(110, _), (111, _)])
                  case ho => rfl
                  case hs => exact ⟨rfl, rfl, trivial⟩
                  case hk => rfl
                  case h1 =>
                    intro wq_11 kq_11
                    have zs_kq_11 := kq_11.size
                    replace hb7 := hb7.chg kq_11 (by first | (intro x h1 h2; exact h2) | (intro x h1 h2; have h3 : _ = _ := h2; subst h3; assumption) | (intro x h1 h2; have h3 : _ = _ := h2; exfalso; omega) | (intro b h1 h2 h3; have h4 : _ = _ := h3; (try dsimp only at h2); exfalso; omega) | (intro h1; have h2 : _ = _ := h1; exfalso; omega) | (intro h1; have h2 : _ ≤ _ := h1; exfalso; omega) | (intros; exfalso; (try dsimp only at *); omega) | (intro h1; exfalso; have h4 := h1.2; (try dsimp only at *); omega) | (intro x h1 h2; exact h2.1))
                    replace hb2 := hb2.chg kq_11 (by first | (intro x h1 h2; exact h2) | (intro x h1 h2; have h3 : _ = _ := h2; subst h3; assumption) | (intro x h1 h2; have h3 : _ = _ := h2; exfalso; omega) | (intro b h1 h2 h3; have h4 : _ = _ := h3; (try dsimp only at h2); exfalso; omega) | (intro h1; have h2 : _ = _ := h1; exfalso; omega) | (intro h1; have h2 : _ ≤ _ := h1; exfalso; omega) | (intros; exfalso; (try dsimp only at *); omega) | (intro h1; exfalso; have h4 := h1.2; (try dsimp only at *); omega) | (intro x h1 h2; exact h2.1))
                    replace hw := hw.chg kq_11 (by first | (intro x h1 h2; exact h2) | (intro x h1 h2; have h3 : _ = _ := h2; subst h3; assumption) | (intro x h1 h2; have h3 : _ = _ := h2; exfalso; omega) | (intro b h1 h2 h3; have h4 : _ = _ := h3; (try dsimp only at h2); exfalso; omega) | (intro h1; have h2 : _ = _ := h1; exfalso; omega) | (intro h1; have h2 : _ ≤ _ := h1; exfalso; omega) | (intros; exfalso; (try dsimp only at *); omega) | (intro h1; exfalso; have h4 := h1.2; (try dsimp only at *); omega) | (intro x h1 h2; exact h2.1))
                    replace hSt := hSt.chg kq_11 (by first | (intro x h1 h2; exact h2) | (intro x h1 h2; have h3 : _ = _ := h2; subst h3; assumption) | (intro x h1 h2; have h3 : _ = _ := h2; exfalso; omega) | (intro b h1 h2 h3; have h4 : _ = _ := h3; (try dsimp only at h2); exfalso; omega) | (intro h1; have h2 : _ = _ := h1; exfalso; omega) | (intro h1; have h2 : _ ≤ _ := h1; exfalso; omega) | (intros; exfalso; (try dsimp only at *); omega) | (intro h1; exfalso; have h4 := h1.2; (try dsimp only at *); omega) | (intro x h1 h2; exact h2.1))
                    replace hFr := hFr.chg kq_11 (by first | (intro x h1 h2; exact h2) | (intro x h1 h2; have h3 : _ = _ := h2; subst h3; assumption) | (intro x h1 h2; have h3 : _ = _ := h2; exfalso; omega) | (intro b h1 h2 h3; have h4 : _ = _ := h3; (try dsimp only at h2); exfalso; omega) | (intro h1; have h2 : _ = _ := h1; exfalso; omega) | (intro h1; have h2 : _ ≤ _ := h1; exfalso; omega) | (intros; exfalso; (try dsimp only at *); omega) | (intro h1; exfalso; have h4 := h1.2; (try dsimp only at *); omega) | (intro x h1 h2; exact h2.1))
                    replace hDe := hDe.chg kq_11 (by first | (intro x h1 h2; exact h2) | (intro x h1 h2; have h3 : _ = _ := h2; subst h3; assumption) | (intro x h1 h2; have h3 : _ = _ := h2; exfalso; omega) | (intro b h1 h2 h3; have h4 : _ = _ := h3; (try dsimp only at h2); exfalso; omega) | (intro h1; have h2 : _ = _ := h1; exfalso; omega) | (intro h1; have h2 : _ ≤ _ := h1; exfalso; omega) | (intros; exfalso; (try dsimp only at *); omega) | (intro h1; exfalso; have h4 := h1.2; (try dsimp only at *); omega) | (intro x h1 h2; exact h2.1))
                    replace hIn := hIn.chg kq_11 (by first | (intro x h1 h2; exact h2) | (intro x h1 h2; have h3 : _ = _ := h2; subst h3; assumption) | (intro x h1 h2; have h3 : _ = _ := h2; exfalso; omega) | (intro b h1 h2 h3; have h4 : _ = _ := h3; (try dsimp only at h2); exfalso; omega) | (intro h1; have h2 : _ = _ := h1; exfalso; omega) | (intro h1; have h2 : _ ≤ _ := h1; exfalso; omega) | (intros; exfalso; (try dsimp only at *); omega) | (intro h1; exfalso; have h4 := h1.2; (try dsimp only at *); omega) | (intro x h1 h2; exact h2.1))
                    replace hWn := hWn.chg kq_11 (by first | (intro x h1 h2; exact h2) | (intro x h1 h2; have h3 : _ = _ := h2; subst h3; assumption) | (intro x h1 h2; have h3 : _ = _ := h2; exfalso; omega) | (intro b h1 h2 h3; have h4 : _ = _ := h3; (try dsimp only at h2); exfalso; omega) | (intro h1; have h2 : _ = _ := h1; exfalso; omega) | (intro h1; have h2 : _ ≤ _ := h1; exfalso; omega) | (intros; exfalso; (try dsimp only at *); omega) | (intro h1; exfalso; have h4 := h1.2; (try dsimp only at *); omega) | (intro x h1 h2; exact h2.1))
                    refine WL.indexC (e := esn) hWn.rsl Try.underlying22 Try.sizeOf72 (by show some (Value.slice _ sn.length _) = _; rw [hmixl]) rfl ⟨hyn, rfl⟩ rfl ?_
                    refine WL.nil ?_
                    exact WX.one ⟨rfl, by first | exact Chg.refl _ _ | assumption⟩
                  apply DQT.step (E' := [(112, _)])
                  case ho => rfl
                  case hs => exact ⟨rfl, trivial⟩
                  case hk => rfl
                  case h1 =>
                    intro wq_12 kq_12
                    have zs_kq_12 := kq_12.size
                    replace hb7 := hb7.chg kq_12 (by first | (intro x h1 h2; exact h2) | (intro x h1 h2; have h3 : _ = _ := h2; subst h3; assumption) | (intro x h1 h2; have h3 : _ = _ := h2; exfalso; omega) | (intro b h1 h2 h3; have h4 : _ = _ := h3; (try dsimp only at h2); exfalso; omega) | (intro h1; have h2 : _ = _ := h1; exfalso; omega) | (intro h1; have h2 : _ ≤ _ := h1; exfalso; omega) | (intros; exfalso; (try dsimp only at *); omega) | (intro h1; exfalso; have h4 := h1.2; (try dsimp only at *); omega) | (intro x h1 h2; exact h2.1))
                    replace hb2 := hb2.chg kq_12 (by first | (intro x h1 h2; exact h2) | (intro x h1 h2; have h3 : _ = _ := h2; subst h3; assumption) | (intro x h1 h2; have h3 : _ = _ := h2; exfalso; omega) | (intro b h1 h2 h3; have h4 : _ = _ := h3; (try dsimp only at h2); exfalso; omega) | (intro h1; have h2 : _ = _ := h1; exfalso; omega) | (intro h1; have h2 : _ ≤ _ := h1; exfalso; omega) | (intros; exfalso; (try dsimp only at *); omega) | (intro h1; exfalso; have h4 := h1.2; (try dsimp only at *); omega) | (intro x h1 h2; exact h2.1))
                    replace hw := hw.chg kq_12 (by first | (intro x h1 h2; exact h2) | (intro x h1 h2; have h3 : _ = _ := h2; subst h3; assumption) | (intro x h1 h2; have h3 : _ = _ := h2; exfalso; omega) | (intro b h1 h2 h3; have h4 : _ = _ := h3; (try dsimp only at h2); exfalso; omega) | (intro h1; have h2 : _ = _ := h1; exfalso; omega) | (intro h1; have h2 : _ ≤ _ := h1; exfalso; omega) | (intros; exfalso; (try dsimp only at *); omega) | (intro h1; exfalso; have h4 := h1.2; (try dsimp only at *); omega) | (intro x h1 h2; exact h2.1))
                    replace hSt := hSt.chg kq_12 (by first | (intro x h1 h2; exact h2) | (intro x h1 h2; have h3 : _ = _ := h2; subst h3; assumption) | (intro x h1 h2; have h3 : _ = _ := h2; exfalso; omega) | (intro b h1 h2 h3; have h4 : _ = _ := h3; (try dsimp only at h2); exfalso; omega) | (intro h1; have h2 : _ = _ := h1; exfalso; omega) | (intro h1; have h2 : _ ≤ _ := h1; exfalso; omega) | (intros; exfalso; (try dsimp only at *); omega) | (intro h1; exfalso; have h4 := h1.2; (try dsimp only at *); omega) | (intro x h1 h2; exact h2.1))
                    replace hFr := hFr.chg kq_12 (by first | (intro x h1 h2; exact h2) | (intro x h1 h2; have h3 : _ = _ := h2; subst h3; assumption) | (intro x h1 h2; have h3 : _ = _ := h2; exfalso; omega) | (intro b h1 h2 h3; have h4 : _ = _ := h3; (try dsimp only at h2); exfalso; omega) | (intro h1; have h2 : _ = _ := h1; exfalso; omega) | (intro h1; have h2 : _ ≤ _ := h1; exfalso; omega) | (intros; exfalso; (try dsimp only at *); omega) | (intro h1; exfalso; have h4 := h1.2; (try dsimp only at *); omega) | (intro x h1 h2; exact h2.1))
                    replace hDe := hDe.chg kq_12 (by first | (intro x h1 h2; exact h2) | (intro x h1 h2; have h3 : _ = _ := h2; subst h3; assumption) | (intro x h1 h2; have h3 : _ = _ := h2; exfalso; omega) | (intro b h1 h2 h3; have h4 : _ = _ := h3; (try dsimp only at h2); exfalso; omega) | (intro h1; have h2 : _ = _ := h1; exfalso; omega) | (intro h1; have h2 : _ ≤ _ := h1; exfalso; omega) | (intros; exfalso; (try dsimp only at *); omega) | (intro h1; exfalso; have h4 := h1.2; (try dsimp only at *); omega) | (intro x h1 h2; exact h2.1))
                    replace hIn := hIn.chg kq_12 (by first | (intro x h1 h2; exact h2) | (intro x h1 h2; have h3 : _ = _ := h2; subst h3; assumption) | (intro x h1 h2; have h3 : _ = _ := h2; exfalso; omega) | (intro b h1 h2 h3; have h4 : _ = _ := h3; (try dsimp only at h2); exfalso; omega) | (intro h1; have h2 : _ = _ := h1; exfalso; omega) | (intro h1; have h2 : _ ≤ _ := h1; exfalso; omega) | (intros; exfalso; (try dsimp only at *); omega) | (intro h1; exfalso; have h4 := h1.2; (try dsimp only at *); omega) | (intro x h1 h2; exact h2.1))
                    replace hWn := hWn.chg kq_12 (by first | (intro x h1 h2; exact h2) | (intro x h1 h2; have h3 : _ = _ := h2; subst h3; assumption) | (intro x h1 h2; have h3 : _ = _ := h2; exfalso; omega) | (intro b h1 h2 h3; have h4 : _ = _ := h3; (try dsimp only at h2); exfalso; omega) | (intro h1; have h2 : _ = _ := h1; exfalso; omega) | (intro h1; have h2 : _ ≤ _ := h1; exfalso; omega) | (intros; exfalso; (try dsimp only at *); omega) | (intro h1; exfalso; have h4 := h1.2; (try dsimp only at *); omega) | (intro x h1 h2; exact h2.1))
                    refine WL.loads _ Try.isAgg72 Try.sizeOf72 rfl (hWn.rsl.cellsAt hyn) rfl rfl ?_
                    refine WL.nil ?_
                    exact WX.one ⟨rfl, by first | exact Chg.refl _ _ | assumption⟩
                  apply DQT.step (E' := [(12, _)])
                  case ho => rfl
                  case hs => exact ⟨rfl, trivial⟩
                  case hk => rfl
                  case h1 =>
                    intro wq_13 kq_13
                    refine WL.fieldAddr (fld_25_1) rfl rfl (?_)
                    refine WL.nil ?_
                    exact WX.one ⟨rfl, by first | exact Chg.refl _ _ | assumption⟩
                  refine DQT.done (fun hd_6 => ?_)
                  refine ⟨?_, ?_, trivial, trivial, trivial⟩
                  refine DT.step [(107, _)] rfl ⟨rfl, trivial⟩ rfl (fun wq_14 kq_14 => ?_)
                  have zs_kq_14 := kq_14.size
                  replace hb7 := hb7.pure kq_14
                  replace hb2 := hb2.pure kq_14
                  replace hw := hw.pure kq_14
                  replace hSt := hSt.pure kq_14
                  replace hFr := hFr.pure kq_14
                  replace hDe := hDe.pure kq_14
                  replace hIn := hIn.pure kq_14
                  replace hb12 := hb12.pure kq_14
                  replace hOut := hOut.pure kq_14
                  replace hWn := hWn.pure kq_14
                  replace hd_6 := hd_6.pure kq_14
                  refine WL.loadB Try.isAgg22 hb12 rfl rfl rfl (?_)
                  refine WL.nil (WX.one ⟨hd_6, ?_⟩)
                  refine ⟨?_, trivial, trivial, trivial⟩
                  refine DT.step [(113, _)] rfl ⟨rfl, trivial⟩ rfl (fun wq_15 kq_15 => ?_)
                  have zs_kq_15 := kq_15.size
                  replace hb7 := hb7.pure kq_15
                  replace hb2 := hb2.pure kq_15
                  replace hw := hw.pure kq_15
                  replace hSt := hSt.pure kq_15
                  replace hFr := hFr.pure kq_15
                  replace hDe := hDe.pure kq_15
                  replace hIn := hIn.pure kq_15
                  replace hb12 := hb12.pure kq_15
                  replace hOut := hOut.pure kq_15
                  replace hWn := hWn.pure kq_15
                  replace hd_6 := hd_6.pure kq_15
                  refine WL.build (e := esn) [y] Try.underlying22 Try.sizeOf72 Try.zeroValue72 rfl rfl rfl (by first | (simp [Value.cells]; done) | (simp [Value.cells] <;> rfl) | (simp [Value.cells, eb, ei, es, ebool, e32, e64]; done)) (by decide) rfl ?_
                  intro a_hq w_hq hq l_hq z_hq k_hq
                  have zs_k_hq := k_hq.size
                  replace hb7 := hb7.pure k_hq
                  replace hb2 := hb2.pure k_hq
                  replace hw := hw.pure k_hq
                  replace hSt := hSt.pure k_hq
                  replace hFr := hFr.pure k_hq
                  replace hDe := hDe.pure k_hq
                  replace hIn := hIn.pure k_hq
                  replace hb12 := hb12.pure k_hq
                  replace hOut := hOut.pure k_hq
                  replace hWn := hWn.pure k_hq
                  replace hd_6 := hd_6.pure k_hq
                  refine WL.nil (WX.one ⟨hd_6, ?_⟩)
                  refine ⟨?_, trivial, trivial⟩
                  refine DT.step [(108, _), (114, _)] rfl ⟨rfl, rfl, trivial⟩ rfl (fun wq_16 kq_16 => ?_)
                  have zs_kq_16 := kq_16.size
                  replace hb7 := hb7.pure kq_16
                  replace hb2 := hb2.pure kq_16
                  replace hw := hw.pure kq_16
                  replace hSt := hSt.pure kq_16
                  replace hFr := hFr.pure kq_16
                  replace hDe := hDe.pure kq_16
                  replace hIn := hIn.pure kq_16
                  replace hb12 := hb12.pure kq_16
                  replace hOut := hOut.pure kq_16
                  replace hWn := hWn.pure kq_16
                  replace hd_6 := hd_6.pure kq_16
                  replace hq := hq.pure kq_16
                  refine WL.append (e := esn) info_72 rfl Try.underlying22 rfl rfl hOut (hq.rsl.src Try.underlying22) (by constructor <;> (simp only [List.length_cons, List.length_nil]; omega)) (fun x hx => by omega) rfl ?_
                  intro as9 cs9 w9 hR9 gg9 n9
                  have gk9 := gg9.chg.mono (fun x _ hx => hx.2)
                  have zs_gk9 := gk9.size
                  replace hb7 := hb7.chg gk9 (by first | (intro x h1 h2; exact h2) | (intro x h1 h2; have h3 : _ = _ := h2; subst h3; assumption) | (intro x h1 h2; have h3 : _ = _ := h2; exfalso; omega) | (intro b h1 h2 h3; have h4 : _ = _ := h3; (try dsimp only at h2); exfalso; omega) | (intro h1; have h2 : _ = _ := h1; exfalso; omega) | (intro h1; have h2 : _ ≤ _ := h1; exfalso; omega) | (intros; exfalso; (try dsimp only at *); omega) | (intro h1; exfalso; have h4 := h1.2; (try dsimp only at *); omega) | (intro x h1 h2; exact h2.1))
                  replace hb2 := hb2.chg gk9 (by first | (intro x h1 h2; exact h2) | (intro x h1 h2; have h3 : _ = _ := h2; subst h3; assumption) | (intro x h1 h2; have h3 : _ = _ := h2; exfalso; omega) | (intro b h1 h2 h3; have h4 : _ = _ := h3; (try dsimp only at h2); exfalso; omega) | (intro h1; have h2 : _ = _ := h1; exfalso; omega) | (intro h1; have h2 : _ ≤ _ := h1; exfalso; omega) | (intros; exfalso; (try dsimp only at *); omega) | (intro h1; exfalso; have h4 := h1.2; (try dsimp only at *); omega) | (intro x h1 h2; exact h2.1))
                  replace hw := hw.chg gk9 (by first | (intro x h1 h2; exact h2) | (intro x h1 h2; have h3 : _ = _ := h2; subst h3; assumption) | (intro x h1 h2; have h3 : _ = _ := h2; exfalso; omega) | (intro b h1 h2 h3; have h4 : _ = _ := h3; (try dsimp only at h2); exfalso; omega) | (intro h1; have h2 : _ = _ := h1; exfalso; omega) | (intro h1; have h2 : _ ≤ _ := h1; exfalso; omega) | (intros; exfalso; (try dsimp only at *); omega) | (intro h1; exfalso; have h4 := h1.2; (try dsimp only at *); omega) | (intro x h1 h2; exact h2.1))
                  replace hSt := hSt.chg gk9 (by first | (intro x h1 h2; exact h2) | (intro x h1 h2; have h3 : _ = _ := h2; subst h3; assumption) | (intro x h1 h2; have h3 : _ = _ := h2; exfalso; omega) | (intro b h1 h2 h3; have h4 : _ = _ := h3; (try dsimp only at h2); exfalso; omega) | (intro h1; have h2 : _ = _ := h1; exfalso; omega) | (intro h1; have h2 : _ ≤ _ := h1; exfalso; omega) | (intros; exfalso; (try dsimp only at *); omega) | (intro h1; exfalso; have h4 := h1.2; (try dsimp only at *); omega) | (intro x h1 h2; exact h2.1))
                  replace hFr := hFr.chg gk9 (by first | (intro x h1 h2; exact h2) | (intro x h1 h2; have h3 : _ = _ := h2; subst h3; assumption) | (intro x h1 h2; have h3 : _ = _ := h2; exfalso; omega) | (intro b h1 h2 h3; have h4 : _ = _ := h3; (try dsimp only at h2); exfalso; omega) | (intro h1; have h2 : _ = _ := h1; exfalso; omega) | (intro h1; have h2 : _ ≤ _ := h1; exfalso; omega) | (intros; exfalso; (try dsimp only at *); omega) | (intro h1; exfalso; have h4 := h1.2; (try dsimp only at *); omega) | (intro x h1 h2; exact h2.1))
                  replace hDe := hDe.chg gk9 (by first | (intro x h1 h2; exact h2) | (intro x h1 h2; have h3 : _ = _ := h2; subst h3; assumption) | (intro x h1 h2; have h3 : _ = _ := h2; exfalso; omega) | (intro b h1 h2 h3; have h4 : _ = _ := h3; (try dsimp only at h2); exfalso; omega) | (intro h1; have h2 : _ = _ := h1; exfalso; omega) | (intro h1; have h2 : _ ≤ _ := h1; exfalso; omega) | (intros; exfalso; (try dsimp only at *); omega) | (intro h1; exfalso; have h4 := h1.2; (try dsimp only at *); omega) | (intro x h1 h2; exact h2.1))
                  replace hIn := hIn.chg gk9 (by first | (intro x h1 h2; exact h2) | (intro x h1 h2; have h3 : _ = _ := h2; subst h3; assumption) | (intro x h1 h2; have h3 : _ = _ := h2; exfalso; omega) | (intro b h1 h2 h3; have h4 : _ = _ := h3; (try dsimp only at h2); exfalso; omega) | (intro h1; have h2 : _ = _ := h1; exfalso; omega) | (intro h1; have h2 : _ ≤ _ := h1; exfalso; omega) | (intros; exfalso; (try dsimp only at *); omega) | (intro h1; exfalso; have h4 := h1.2; (try dsimp only at *); omega) | (intro x h1 h2; exact h2.1))
                  replace hb12 := hb12.chg gk9 (by first | (intro x h1 h2; exact h2) | (intro x h1 h2; have h3 : _ = _ := h2; subst h3; assumption) | (intro x h1 h2; have h3 : _ = _ := h2; exfalso; omega) | (intro b h1 h2 h3; have h4 : _ = _ := h3; (try dsimp only at h2); exfalso; omega) | (intro h1; have h2 : _ = _ := h1; exfalso; omega) | (intro h1; have h2 : _ ≤ _ := h1; exfalso; omega) | (intros; exfalso; (try dsimp only at *); omega) | (intro h1; exfalso; have h4 := h1.2; (try dsimp only at *); omega) | (intro x h1 h2; exact h2.1))
                  replace hWn := hWn.chg gk9 (by first | (intro x h1 h2; exact h2) | (intro x h1 h2; have h3 : _ = _ := h2; subst h3; assumption) | (intro x h1 h2; have h3 : _ = _ := h2; exfalso; omega) | (intro b h1 h2 h3; have h4 : _ = _ := h3; (try dsimp only at h2); exfalso; omega) | (intro h1; have h2 : _ = _ := h1; exfalso; omega) | (intro h1; have h2 : _ ≤ _ := h1; exfalso; omega) | (intros; exfalso; (try dsimp only at *); omega) | (intro h1; exfalso; have h4 := h1.2; (try dsimp only at *); omega) | (intro x h1 h2; exact h2.1))
                  replace hd_6 := hd_6.chg gk9 (by first | (intro x h1 h2; exact h2) | (intro x h1 h2; have h3 : _ = _ := h2; subst h3; assumption) | (intro x h1 h2; have h3 : _ = _ := h2; exfalso; omega) | (intro b h1 h2 h3; have h4 : _ = _ := h3; (try dsimp only at h2); exfalso; omega) | (intro h1; have h2 : _ = _ := h1; exfalso; omega) | (intro h1; have h2 : _ ≤ _ := h1; exfalso; omega) | (intros; exfalso; (try dsimp only at *); omega) | (intro h1; exfalso; have h4 := h1.2; (try dsimp only at *); omega) | (intro x h1 h2; exact h2.1))
                  refine WL.nil (WX.one ⟨hd_6, ?_⟩)
                  refine ⟨?_, trivial⟩
                  refine DT.step [(116, _), (115, _)] rfl ⟨rfl, rfl, trivial⟩ rfl (fun wq_17 kq_17 => ?_)
                  have zs_kq_17 := kq_17.size
                  replace hb7 := hb7.pure kq_17
                  replace hb2 := hb2.pure kq_17
                  replace hw := hw.pure kq_17
                  replace hSt := hSt.pure kq_17
                  replace hFr := hFr.pure kq_17
                  replace hDe := hDe.pure kq_17
                  replace hIn := hIn.pure kq_17
                  replace hb12 := hb12.pure kq_17
                  replace hWn := hWn.pure kq_17
                  replace hd_6 := hd_6.pure kq_17
                  replace hR9 := hR9.pure kq_17
                  refine WL.store Try.sizeOf22 hb12 rfl rfl rfl rfl ?_
                  intro w_18 hs_18 hn_18 k_18
                  have zs_k_18 := k_18.size
                  replace hb7 := hb7.chg k_18 (by first | (intro x h1 h2; exact h2) | (intro x h1 h2; have h3 : _ = _ := h2; subst h3; assumption) | (intro x h1 h2; have h3 : _ = _ := h2; exfalso; omega) | (intro b h1 h2 h3; have h4 : _ = _ := h3; (try dsimp only at h2); exfalso; omega) | (intro h1; have h2 : _ = _ := h1; exfalso; omega) | (intro h1; have h2 : _ ≤ _ := h1; exfalso; omega) | (intros; exfalso; (try dsimp only at *); omega) | (intro h1; exfalso; have h4 := h1.2; (try dsimp only at *); omega) | (intro x h1 h2; exact h2.1))
                  replace hb2 := hb2.chg k_18 (by first | (intro x h1 h2; exact h2) | (intro x h1 h2; have h3 : _ = _ := h2; subst h3; assumption) | (intro x h1 h2; have h3 : _ = _ := h2; exfalso; omega) | (intro b h1 h2 h3; have h4 : _ = _ := h3; (try dsimp only at h2); exfalso; omega) | (intro h1; have h2 : _ = _ := h1; exfalso; omega) | (intro h1; have h2 : _ ≤ _ := h1; exfalso; omega) | (intros; exfalso; (try dsimp only at *); omega) | (intro h1; exfalso; have h4 := h1.2; (try dsimp only at *); omega) | (intro x h1 h2; exact h2.1))
                  replace hw := hw.chg k_18 (by first | (intro x h1 h2; exact h2) | (intro x h1 h2; have h3 : _ = _ := h2; subst h3; assumption) | (intro x h1 h2; have h3 : _ = _ := h2; exfalso; omega) | (intro b h1 h2 h3; have h4 : _ = _ := h3; (try dsimp only at h2); exfalso; omega) | (intro h1; have h2 : _ = _ := h1; exfalso; omega) | (intro h1; have h2 : _ ≤ _ := h1; exfalso; omega) | (intros; exfalso; (try dsimp only at *); omega) | (intro h1; exfalso; have h4 := h1.2; (try dsimp only at *); omega) | (intro x h1 h2; exact h2.1))
                  replace hSt := hSt.chg k_18 (by first | (intro x h1 h2; exact h2) | (intro x h1 h2; have h3 : _ = _ := h2; subst h3; assumption) | (intro x h1 h2; have h3 : _ = _ := h2; exfalso; omega) | (intro b h1 h2 h3; have h4 : _ = _ := h3; (try dsimp only at h2); exfalso; omega) | (intro h1; have h2 : _ = _ := h1; exfalso; omega) | (intro h1; have h2 : _ ≤ _ := h1; exfalso; omega) | (intros; exfalso; (try dsimp only at *); omega) | (intro h1; exfalso; have h4 := h1.2; (try dsimp only at *); omega) | (intro x h1 h2; exact h2.1))
                  replace hFr := hFr.chg k_18 (by first | (intro x h1 h2; exact h2) | (intro x h1 h2; have h3 : _ = _ := h2; subst h3; assumption) | (intro x h1 h2; have h3 : _ = _ := h2; exfalso; omega) | (intro b h1 h2 h3; have h4 : _ = _ := h3; (try dsimp only at h2); exfalso; omega) | (intro h1; have h2 : _ = _ := h1; exfalso; omega) | (intro h1; have h2 : _ ≤ _ := h1; exfalso; omega) | (intros; exfalso; (try dsimp only at *); omega) | (intro h1; exfalso; have h4 := h1.2; (try dsimp only at *); omega) | (intro x h1 h2; exact h2.1))
                  replace hDe := hDe.chg k_18 (by first | (intro x h1 h2; exact h2) | (intro x h1 h2; have h3 : _ = _ := h2; subst h3; assumption) | (intro x h1 h2; have h3 : _ = _ := h2; exfalso; omega) | (intro b h1 h2 h3; have h4 : _ = _ := h3; (try dsimp only at h2); exfalso; omega) | (intro h1; have h2 : _ = _ := h1; exfalso; omega) | (intro h1; have h2 : _ ≤ _ := h1; exfalso; omega) | (intros; exfalso; (try dsimp only at *); omega) | (intro h1; exfalso; have h4 := h1.2; (try dsimp only at *); omega) | (intro x h1 h2; exact h2.1))
                  replace hIn := hIn.chg k_18 (by first | (intro x h1 h2; exact h2) | (intro x h1 h2; have h3 : _ = _ := h2; subst h3; assumption) | (intro x h1 h2; have h3 : _ = _ := h2; exfalso; omega) | (intro b h1 h2 h3; have h4 : _ = _ := h3; (try dsimp only at h2); exfalso; omega) | (intro h1; have h2 : _ = _ := h1; exfalso; omega) | (intro h1; have h2 : _ ≤ _ := h1; exfalso; omega) | (intros; exfalso; (try dsimp only at *); omega) | (intro h1; exfalso; have h4 := h1.2; (try dsimp only at *); omega) | (intro x h1 h2; exact h2.1))
                  replace hWn := hWn.chg k_18 (by first | (intro x h1 h2; exact h2) | (intro x h1 h2; have h3 : _ = _ := h2; subst h3; assumption) | (intro x h1 h2; have h3 : _ = _ := h2; exfalso; omega) | (intro b h1 h2 h3; have h4 : _ = _ := h3; (try dsimp only at h2); exfalso; omega) | (intro h1; have h2 : _ = _ := h1; exfalso; omega) | (intro h1; have h2 : _ ≤ _ := h1; exfalso; omega) | (intros; exfalso; (try dsimp only at *); omega) | (intro h1; exfalso; have h4 := h1.2; (try dsimp only at *); omega) | (intro x h1 h2; exact h2.1))
                  replace hd_6 := hd_6.chg k_18 (by first | (intro x h1 h2; exact h2) | (intro x h1 h2; have h3 : _ = _ := h2; subst h3; assumption) | (intro x h1 h2; have h3 : _ = _ := h2; exfalso; omega) | (intro b h1 h2 h3; have h4 : _ = _ := h3; (try dsimp only at h2); exfalso; omega) | (intro h1; have h2 : _ = _ := h1; exfalso; omega) | (intro h1; have h2 : _ ≤ _ := h1; exfalso; omega) | (intros; exfalso; (try dsimp only at *); omega) | (intro h1; exfalso; have h4 := h1.2; (try dsimp only at *); omega) | (intro x h1 h2; exact h2.1))
                  replace hR9 := hR9.chg k_18 (by first | (intro x h1 h2; exact h2) | (intro x h1 h2; have h3 : _ = _ := h2; subst h3; assumption) | (intro x h1 h2; have h3 : _ = _ := h2; exfalso; omega) | (intro b h1 h2 h3; have h4 : _ = _ := h3; (try dsimp only at h2); exfalso; omega) | (intro h1; have h2 : _ = _ := h1; exfalso; omega) | (intro h1; have h2 : _ ≤ _ := h1; exfalso; omega) | (intros; exfalso; (try dsimp only at *); omega) | (intro h1; exfalso; have h4 := h1.2; (try dsimp only at *); omega) | (intro x h1 h2; exact h2.1))
                  replace hb12 := hn_18
                  refine WL.nil (WX.one0 (v := undef) ⟨hd_6, ?_⟩)
                  refine DT.done (fun we_19 ke_19 => ?_) _
                  have zs_ke_19 := ke_19.size
                  replace hb7 := hb7.pure ke_19
                  replace hb2 := hb2.pure ke_19
                  replace hw := hw.pure ke_19
                  replace hSt := hSt.pure ke_19
                  replace hFr := hFr.pure ke_19
                  replace hDe := hDe.pure ke_19
                  replace hIn := hIn.pure ke_19
                  replace hb12 := hb12.pure ke_19
                  replace hWn := hWn.pure ke_19
                  replace hd_6 := hd_6.pure ke_19
                  replace hR9 := hR9.pure ke_19
                  rotate_left
                  refine DT.step [(113, _)] rfl ⟨rfl, trivial⟩ rfl (fun wq_14 kq_14 => ?_)
                  have zs_kq_14 := kq_14.size
                  replace hb7 := hb7.pure kq_14
                  replace hb2 := hb2.pure kq_14
                  replace hw := hw.pure kq_14
                  replace hSt := hSt.pure kq_14
                  replace hFr := hFr.pure kq_14
                  replace hDe := hDe.pure kq_14
                  replace hIn := hIn.pure kq_14
                  replace hb12 := hb12.pure kq_14
                  replace hOut := hOut.pure kq_14
                  replace hWn := hWn.pure kq_14
                  replace hd_6 := hd_6.pure kq_14
                  refine WL.build (e := esn) [y] Try.underlying22 Try.sizeOf72 Try.zeroValue72 rfl rfl rfl (by first | (simp [Value.cells]; done) | (simp [Value.cells] <;> rfl) | (simp [Value.cells, eb, ei, es, ebool, e32, e64]; done)) (by decide) rfl ?_
                  intro a_hq w_hq hq l_hq z_hq k_hq
                  have zs_k_hq := k_hq.size
                  replace hb7 := hb7.pure k_hq
                  replace hb2 := hb2.pure k_hq
                  replace hw := hw.pure k_hq
                  replace hSt := hSt.pure k_hq
                  replace hFr := hFr.pure k_hq
                  replace hDe := hDe.pure k_hq
                  replace hIn := hIn.pure k_hq
                  replace hb12 := hb12.pure k_hq
                  replace hOut := hOut.pure k_hq
                  replace hWn := hWn.pure k_hq
                  replace hd_6 := hd_6.pure k_hq
                  refine WL.nil (WX.one ⟨hd_6, ?_⟩)
                  refine ⟨?_, trivial, trivial, trivial⟩
                  refine DT.step [(107, _)] rfl ⟨rfl, trivial⟩ rfl (fun wq_15 kq_15 => ?_)
                  have zs_kq_15 := kq_15.size
                  replace hb7 := hb7.pure kq_15
                  replace hb2 := hb2.pure kq_15
                  replace hw := hw.pure kq_15
                  replace hSt := hSt.pure kq_15
                  replace hFr := hFr.pure kq_15
                  replace hDe := hDe.pure kq_15
                  replace hIn := hIn.pure kq_15
                  replace hb12 := hb12.pure kq_15
                  replace hOut := hOut.pure kq_15
                  replace hWn := hWn.pure kq_15
                  replace hd_6 := hd_6.pure kq_15
                  replace hq := hq.pure kq_15
                  refine WL.loadB Try.isAgg22 hb12 rfl rfl rfl (?_)
                  refine WL.nil (WX.one ⟨hd_6, ?_⟩)
                  refine ⟨?_, trivial, trivial⟩
                  refine DT.step [(108, _), (114, _)] rfl ⟨rfl, rfl, trivial⟩ rfl (fun wq_16 kq_16 => ?_)
                  have zs_kq_16 := kq_16.size
                  replace hb7 := hb7.pure kq_16
                  replace hb2 := hb2.pure kq_16
                  replace hw := hw.pure kq_16
                  replace hSt := hSt.pure kq_16
                  replace hFr := hFr.pure kq_16
                  replace hDe := hDe.pure kq_16
                  replace hIn := hIn.pure kq_16
                  replace hb12 := hb12.pure kq_16
                  replace hOut := hOut.pure kq_16
                  replace hWn := hWn.pure kq_16
                  replace hd_6 := hd_6.pure kq_16
                  replace hq := hq.pure kq_16
                  refine WL.append (e := esn) info_72 rfl Try.underlying22 rfl rfl hOut (hq.rsl.src Try.underlying22) (by constructor <;> (simp only [List.length_cons, List.length_nil]; omega)) (fun x hx => by omega) rfl ?_
                  intro as9 cs9 w9 hR9 gg9 n9
                  have gk9 := gg9.chg.mono (fun x _ hx => hx.2)
                  have zs_gk9 := gk9.size
                  replace hb7 := hb7.chg gk9 (by first | (intro x h1 h2; exact h2) | (intro x h1 h2; have h3 : _ = _ := h2; subst h3; assumption) | (intro x h1 h2; have h3 : _ = _ := h2; exfalso; omega) | (intro b h1 h2 h3; have h4 : _ = _ := h3; (try dsimp only at h2); exfalso; omega) | (intro h1; have h2 : _ = _ := h1; exfalso; omega) | (intro h1; have h2 : _ ≤ _ := h1; exfalso; omega) | (intros; exfalso; (try dsimp only at *); omega) | (intro h1; exfalso; have h4 := h1.2; (try dsimp only at *); omega) | (intro x h1 h2; exact h2.1))
                  replace hb2 := hb2.chg gk9 (by first | (intro x h1 h2; exact h2) | (intro x h1 h2; have h3 : _ = _ := h2; subst h3; assumption) | (intro x h1 h2; have h3 : _ = _ := h2; exfalso; omega) | (intro b h1 h2 h3; have h4 : _ = _ := h3; (try dsimp only at h2); exfalso; omega) | (intro h1; have h2 : _ = _ := h1; exfalso; omega) | (intro h1; have h2 : _ ≤ _ := h1; exfalso; omega) | (intros; exfalso; (try dsimp only at *); omega) | (intro h1; exfalso; have h4 := h1.2; (try dsimp only at *); omega) | (intro x h1 h2; exact h2.1))
                  replace hw := hw.chg gk9 (by first | (intro x h1 h2; exact h2) | (intro x h1 h2; have h3 : _ = _ := h2; subst h3; assumption) | (intro x h1 h2; have h3 : _ = _ := h2; exfalso; omega) | (intro b h1 h2 h3; have h4 : _ = _ := h3; (try dsimp only at h2); exfalso; omega) | (intro h1; have h2 : _ = _ := h1; exfalso; omega) | (intro h1; have h2 : _ ≤ _ := h1; exfalso; omega) | (intros; exfalso; (try dsimp only at *); omega) | (intro h1; exfalso; have h4 := h1.2; (try dsimp only at *); omega) | (intro x h1 h2; exact h2.1))
                  replace hSt := hSt.chg gk9 (by first | (intro x h1 h2; exact h2) | (intro x h1 h2; have h3 : _ = _ := h2; subst h3; assumption) | (intro x h1 h2; have h3 : _ = _ := h2; exfalso; omega) | (intro b h1 h2 h3; have h4 : _ = _ := h3; (try dsimp only at h2); exfalso; omega) | (intro h1; have h2 : _ = _ := h1; exfalso; omega) | (intro h1; have h2 : _ ≤ _ := h1; exfalso; omega) | (intros; exfalso; (try dsimp only at *); omega) | (intro h1; exfalso; have h4 := h1.2; (try dsimp only at *); omega) | (intro x h1 h2; exact h2.1))
                  replace hFr := hFr.chg gk9 (by first | (intro x h1 h2; exact h2) | (intro x h1 h2; have h3 : _ = _ := h2; subst h3; assumption) | (intro x h1 h2; have h3 : _ = _ := h2; exfalso; omega) | (intro b h1 h2 h3; have h4 : _ = _ := h3; (try dsimp only at h2); exfalso; omega) | (intro h1; have h2 : _ = _ := h1; exfalso; omega) | (intro h1; have h2 : _ ≤ _ := h1; exfalso; omega) | (intros; exfalso; (try dsimp only at *); omega) | (intro h1; exfalso; have h4 := h1.2; (try dsimp only at *); omega) | (intro x h1 h2; exact h2.1))
                  replace hDe := hDe.chg gk9 (by first | (intro x h1 h2; exact h2) | (intro x h1 h2; have h3 : _ = _ := h2; subst h3; assumption) | (intro x h1 h2; have h3 : _ = _ := h2; exfalso; omega) | (intro b h1 h2 h3; have h4 : _ = _ := h3; (try dsimp only at h2); exfalso; omega) | (intro h1; have h2 : _ = _ := h1; exfalso; omega) | (intro h1; have h2 : _ ≤ _ := h1; exfalso; omega) | (intros; exfalso; (try dsimp only at *); omega) | (intro h1; exfalso; have h4 := h1.2; (try dsimp only at *); omega) | (intro x h1 h2; exact h2.1))
                  replace hIn := hIn.chg gk9 (by first | (intro x h1 h2; exact h2) | (intro x h1 h2; have h3 : _ = _ := h2; subst h3; assumption) | (intro x h1 h2; have h3 : _ = _ := h2; exfalso; omega) | (intro b h1 h2 h3; have h4 : _ = _ := h3; (try dsimp only at h2); exfalso; omega) | (intro h1; have h2 : _ = _ := h1; exfalso; omega) | (intro h1; have h2 : _ ≤ _ := h1; exfalso; omega) | (intros; exfalso; (try dsimp only at *); omega) | (intro h1; exfalso; have h4 := h1.2; (try dsimp only at *); omega) | (intro x h1 h2; exact h2.1))
                  replace hb12 := hb12.chg gk9 (by first | (intro x h1 h2; exact h2) | (intro x h1 h2; have h3 : _ = _ := h2; subst h3; assumption) | (intro x h1 h2; have h3 : _ = _ := h2; exfalso; omega) | (intro b h1 h2 h3; have h4 : _ = _ := h3; (try dsimp only at h2); exfalso; omega) | (intro h1; have h2 : _ = _ := h1; exfalso; omega) | (intro h1; have h2 : _ ≤ _ := h1; exfalso; omega) | (intros; exfalso; (try dsimp only at *); omega) | (intro h1; exfalso; have h4 := h1.2; (try dsimp only at *); omega) | (intro x h1 h2; exact h2.1))
                  replace hWn := hWn.chg gk9 (by first | (intro x h1 h2; exact h2) | (intro x h1 h2; have h3 : _ = _ := h2; subst h3; assumption) | (intro x h1 h2; have h3 : _ = _ := h2; exfalso; omega) | (intro b h1 h2 h3; have h4 : _ = _ := h3; (try dsimp only at h2); exfalso; omega) | (intro h1; have h2 : _ = _ := h1; exfalso; omega) | (intro h1; have h2 : _ ≤ _ := h1; exfalso; omega) | (intros; exfalso; (try dsimp only at *); omega) | (intro h1; exfalso; have h4 := h1.2; (try dsimp only at *); omega) | (intro x h1 h2; exact h2.1))
                  replace hd_6 := hd_6.chg gk9 (by first | (intro x h1 h2; exact h2) | (intro x h1 h2; have h3 : _ = _ := h2; subst h3; assumption) | (intro x h1 h2; have h3 : _ = _ := h2; exfalso; omega) | (intro b h1 h2 h3; have h4 : _ = _ := h3; (try dsimp only at h2); exfalso; omega) | (intro h1; have h2 : _ = _ := h1; exfalso; omega) | (intro h1; have h2 : _ ≤ _ := h1; exfalso; omega) | (intros; exfalso; (try dsimp only at *); omega) | (intro h1; exfalso; have h4 := h1.2; (try dsimp only at *); omega) | (intro x h1 h2; exact h2.1))
                  refine WL.nil (WX.one ⟨hd_6, ?_⟩)
                  refine ⟨?_, trivial⟩
                  refine DT.step [(116, _), (115, _)] rfl ⟨rfl, rfl, trivial⟩ rfl (fun wq_17 kq_17 => ?_)
                  have zs_kq_17 := kq_17.size
                  replace hb7 := hb7.pure kq_17
                  replace hb2 := hb2.pure kq_17
                  replace hw := hw.pure kq_17
                  replace hSt := hSt.pure kq_17
                  replace hFr := hFr.pure kq_17
                  replace hDe := hDe.pure kq_17
                  replace hIn := hIn.pure kq_17
                  replace hb12 := hb12.pure kq_17
                  replace hWn := hWn.pure kq_17
                  replace hd_6 := hd_6.pure kq_17
                  replace hR9 := hR9.pure kq_17
                  refine WL.store Try.sizeOf22 hb12 rfl rfl rfl rfl ?_
                  intro w_18 hs_18 hn_18 k_18
                  have zs_k_18 := k_18.size
                  replace hb7 := hb7.chg k_18 (by first | (intro x h1 h2; exact h2) | (intro x h1 h2; have h3 : _ = _ := h2; subst h3; assumption) | (intro x h1 h2; have h3 : _ = _ := h2; exfalso; omega) | (intro b h1 h2 h3; have h4 : _ = _ := h3; (try dsimp only at h2); exfalso; omega) | (intro h1; have h2 : _ = _ := h1; exfalso; omega) | (intro h1; have h2 : _ ≤ _ := h1; exfalso; omega) | (intros; exfalso; (try dsimp only at *); omega) | (intro h1; exfalso; have h4 := h1.2; (try dsimp only at *); omega) | (intro x h1 h2; exact h2.1))
                  replace hb2 := hb2.chg k_18 (by first | (intro x h1 h2; exact h2) | (intro x h1 h2; have h3 : _ = _ := h2; subst h3; assumption) | (intro x h1 h2; have h3 : _ = _ := h2; exfalso; omega) | (intro b h1 h2 h3; have h4 : _ = _ := h3; (try dsimp only at h2); exfalso; omega) | (intro h1; have h2 : _ = _ := h1; exfalso; omega) | (intro h1; have h2 : _ ≤ _ := h1; exfalso; omega) | (intros; exfalso; (try dsimp only at *); omega) | (intro h1; exfalso; have h4 := h1.2; (try dsimp only at *); omega) | (intro x h1 h2; exact h2.1))
                  replace hw := hw.chg k_18 (by first | (intro x h1 h2; exact h2) | (intro x h1 h2; have h3 : _ = _ := h2; subst h3; assumption) | (intro x h1 h2; have h3 : _ = _ := h2; exfalso; omega) | (intro b h1 h2 h3; have h4 : _ = _ := h3; (try dsimp only at h2); exfalso; omega) | (intro h1; have h2 : _ = _ := h1; exfalso; omega) | (intro h1; have h2 : _ ≤ _ := h1; exfalso; omega) | (intros; exfalso; (try dsimp only at *); omega) | (intro h1; exfalso; have h4 := h1.2; (try dsimp only at *); omega) | (intro x h1 h2; exact h2.1))
                  replace hSt := hSt.chg k_18 (by first | (intro x h1 h2; exact h2) | (intro x h1 h2; have h3 : _ = _ := h2; subst h3; assumption) | (intro x h1 h2; have h3 : _ = _ := h2; exfalso; omega) | (intro b h1 h2 h3; have h4 : _ = _ := h3; (try dsimp only at h2); exfalso; omega) | (intro h1; have h2 : _ = _ := h1; exfalso; omega) | (intro h1; have h2 : _ ≤ _ := h1; exfalso; omega) | (intros; exfalso; (try dsimp only at *); omega) | (intro h1; exfalso; have h4 := h1.2; (try dsimp only at *); omega) | (intro x h1 h2; exact h2.1))
                  replace hFr := hFr.chg k_18 (by first | (intro x h1 h2; exact h2) | (intro x h1 h2; have h3 : _ = _ := h2; subst h3; assumption) | (intro x h1 h2; have h3 : _ = _ := h2; exfalso; omega) | (intro b h1 h2 h3; have h4 : _ = _ := h3; (try dsimp only at h2); exfalso; omega) | (intro h1; have h2 : _ = _ := h1; exfalso; omega) | (intro h1; have h2 : _ ≤ _ := h1; exfalso; omega) | (intros; exfalso; (try dsimp only at *); omega) | (intro h1; exfalso; have h4 := h1.2; (try dsimp only at *); omega) | (intro x h1 h2; exact h2.1))
                  replace hDe := hDe.chg k_18 (by first | (intro x h1 h2; exact h2) | (intro x h1 h2; have h3 : _ = _ := h2; subst h3; assumption) | (intro x h1 h2; have h3 : _ = _ := h2; exfalso; omega) | (intro b h1 h2 h3; have h4 : _ = _ := h3; (try dsimp only at h2); exfalso; omega) | (intro h1; have h2 : _ = _ := h1; exfalso; omega) | (intro h1; have h2 : _ ≤ _ := h1; exfalso; omega) | (intros; exfalso; (try dsimp only at *); omega) | (intro h1; exfalso; have h4 := h1.2; (try dsimp only at *); omega) | (intro x h1 h2; exact h2.1))
                  replace hIn := hIn.chg k_18 (by first | (intro x h1 h2; exact h2) | (intro x h1 h2; have h3 : _ = _ := h2; subst h3; assumption) | (intro x h1 h2; have h3 : _ = _ := h2; exfalso; omega) | (intro b h1 h2 h3; have h4 : _ = _ := h3; (try dsimp only at h2); exfalso; omega) | (intro h1; have h2 : _ = _ := h1; exfalso; omega) | (intro h1; have h2 : _ ≤ _ := h1; exfalso; omega) | (intros; exfalso; (try dsimp only at *); omega) | (intro h1; exfalso; have h4 := h1.2; (try dsimp only at *); omega) | (intro x h1 h2; exact h2.1))
                  replace hWn := hWn.chg k_18 (by first | (intro x h1 h2; exact h2) | (intro x h1 h2; have h3 : _ = _ := h2; subst h3; assumption) | (intro x h1 h2; have h3 : _ = _ := h2; exfalso; omega) | (intro b h1 h2 h3; have h4 : _ = _ := h3; (try dsimp only at h2); exfalso; omega) | (intro h1; have h2 : _ = _ := h1; exfalso; omega) | (intro h1; have h2 : _ ≤ _ := h1; exfalso; omega) | (intros; exfalso; (try dsimp only at *); omega) | (intro h1; exfalso; have h4 := h1.2; (try dsimp only at *); omega) | (intro x h1 h2; exact h2.1))
                  replace hd_6 := hd_6.chg k_18 (by first | (intro x h1 h2; exact h2) | (intro x h1 h2; have h3 : _ = _ := h2; subst h3; assumption) | (intro x h1 h2; have h3 : _ = _ := h2; exfalso; omega) | (intro b h1 h2 h3; have h4 : _ = _ := h3; (try dsimp only at h2); exfalso; omega) | (intro h1; have h2 : _ = _ := h1; exfalso; omega) | (intro h1; have h2 : _ ≤ _ := h1; exfalso; omega) | (intros; exfalso; (try dsimp only at *); omega) | (intro h1; exfalso; have h4 := h1.2; (try dsimp only at *); omega) | (intro x h1 h2; exact h2.1))
                  replace hR9 := hR9.chg k_18 (by first | (intro x h1 h2; exact h2) | (intro x h1 h2; have h3 : _ = _ := h2; subst h3; assumption) | (intro x h1 h2; have h3 : _ = _ := h2; exfalso; omega) | (intro b h1 h2 h3; have h4 : _ = _ := h3; (try dsimp only at h2); exfalso; omega) | (intro h1; have h2 : _ = _ := h1; exfalso; omega) | (intro h1; have h2 : _ ≤ _ := h1; exfalso; omega) | (intros; exfalso; (try dsimp only at *); omega) | (intro h1; exfalso; have h4 := h1.2; (try dsimp only at *); omega) | (intro x h1 h2; exact h2.1))
                  replace hb12 := hn_18
                  refine WL.nil (WX.one0 (v := undef) ⟨hd_6, ?_⟩)
                  refine DT.done (fun we_19 ke_19 => ?_) _
                  have zs_ke_19 := ke_19.size
                  replace hb7 := hb7.pure ke_19
                  replace hb2 := hb2.pure ke_19
                  replace hw := hw.pure ke_19
                  replace hSt := hSt.pure ke_19
                  replace hFr := hFr.pure ke_19
                  replace hDe := hDe.pure ke_19
                  replace hIn := hIn.pure ke_19
                  replace hb12 := hb12.pure ke_19
                  replace hWn := hWn.pure ke_19
                  replace hd_6 := hd_6.pure ke_19
                  replace hR9 := hR9.pure ke_19
                  rotate_left
                  all_goals
                    refine WX.block_normal (WX.then_normal (WC.region (WL.move rfl rfl (WL.add64 rfl rfl (by first | omega | (constructor <;> omega)) rfl (WL.assign rfl rfl (WL.nil (?_)))))))
                    first
                      | (exfalso; omega)
                      | (have hh : ah < p.b := h67
                         have htk : nl.take (i + 1) = nl.take i ++ [p] := by rw [List.take_add_one, hp]; rfl
                         exact WX.loop_next (i + 1, (sao, sc2, st), (ao8, c8, fr ++ [p])) ⟨rfl, rfl, rfl, rfl, rfl, rfl, rfl, rfl, trivial⟩ ⟨⟨by show i + 1 ≤ _; omega, by omega⟩, hb7, hb1, hb2, h, hw, hO, hN, hSt8, hb8, hAp8, by rw [htk, List.filter_append, hst]; simp [hh], by rw [htk, List.filter_append, hfr]; simp [hh]⟩ (by show nl.length - (i + 1) < nl.length - i; omega))
                      | (have hh : ¬ ah < p.b := h67
                         have htk : nl.take (i + 1) = nl.take i ++ [p] := by rw [List.take_add_one, hp]; rfl
                         exact WX.loop_next (i + 1, (ao8, c8, st ++ [p]), (fao, fc, fr)) ⟨rfl, rfl, rfl, rfl, rfl, rfl, rfl, rfl, trivial⟩ ⟨⟨by show i + 1 ≤ _; omega, by omega⟩, hb7, hb1, hb2, h, hw, hO, hN, hb8, hFr8, hAp8, by rw [htk, List.filter_append, hst]; simp [hh], by rw [htk, List.filter_append, hfr]; simp [hh]⟩ (by show nl.length - (i + 1) < nl.length - i; omega))
                      | (have hne : j ≠ kk := by omega
                         have ho := outs_ne hy hne
                         exact WX.loop_next (j + 1, (as9, cs9)) ⟨rfl, rfl, rfl, rfl, rfl, rfl, rfl, trivial⟩ ⟨by show j + 1 ≤ _; omega, hb7, hb2, hw, hWn, hSt, hFr, hDe, hIn, by show Blk _ _ _ [vi ba, .slice as9 (outs full kk (j + 1)).length cs9, .slice da de.length dc]; rw [ho]; exact hb12, by show Row _ _ _ esn as9 cs9 (outs full kk (j + 1)); rw [ho]; exact hR9⟩ (by show sn.length - (j + 1) < sn.length - j; omega))
                      | (have hee : j = kk := by omega
                         have ho : outs full kk (j + 1) = outs full kk j := by rw [hee]; exact outs_eq (by omega)
                         have hms := mix_same hfl (j := j) (by
                           rcases hfull with ⟨x1, hx1, _, rfl⟩ | ⟨_, _, rfl⟩
                           ·
                             rw [List.getElem?_set_ne (by omega)]
                           ·
                             rfl) (by omega)
                         exact WX.loop_next (j + 1, (oao, oc)) ⟨rfl, rfl, rfl, rfl, rfl, rfl, rfl, trivial⟩ ⟨by show j + 1 ≤ _; omega, hb7, hb2, hw, by show Row _ _ _ esn _ sc (full.take (j + 1) ++ sn.drop (j + 1)); rw [← hms]; exact hSn, hSt, hFr, hDe, hIn, by show Blk _ _ _ [vi ba, .slice oao (outs full kk (j + 1)).length oc, .slice da de.length dc]; rw [ho]; exact hb12, by show Row _ _ _ esn oao oc (outs full kk (j + 1)); rw [ho]; exact hOut⟩ (by show sn.length - (j + 1) < sn.length - j; omega))
                ·
                  refine WL.nil (WX.then_normal (WC.cond_false rfl (WC.skip (WX.block_normal (WX.then_normal (WC.region (WL.move rfl rfl (?_))))))))
                  refine WL.add64 rfl rfl (by first | omega | (constructor <;> omega)) rfl (WL.assign rfl rfl (WL.nil (?_)))
                  first
                    | (exfalso; omega)
                    | (have hh : ah < p.b := h67
                       have htk : nl.take (i + 1) = nl.take i ++ [p] := by rw [List.take_add_one, hp]; rfl
                       exact WX.loop_next (i + 1, (sao, sc2, st), (ao8, c8, fr ++ [p])) ⟨rfl, rfl, rfl, rfl, rfl, rfl, rfl, rfl, trivial⟩ ⟨⟨by show i + 1 ≤ _; omega, by omega⟩, hb7, hb1, hb2, h, hw, hO, hN, hSt8, hb8, hAp8, by rw [htk, List.filter_append, hst]; simp [hh], by rw [htk, List.filter_append, hfr]; simp [hh]⟩ (by show nl.length - (i + 1) < nl.length - i; omega))
                    | (have hh : ¬ ah < p.b := h67
                       have htk : nl.take (i + 1) = nl.take i ++ [p] := by rw [List.take_add_one, hp]; rfl
                       exact WX.loop_next (i + 1, (ao8, c8, st ++ [p]), (fao, fc, fr)) ⟨rfl, rfl, rfl, rfl, rfl, rfl, rfl, rfl, trivial⟩ ⟨⟨by show i + 1 ≤ _; omega, by omega⟩, hb7, hb1, hb2, h, hw, hO, hN, hb8, hFr8, hAp8, by rw [htk, List.filter_append, hst]; simp [hh], by rw [htk, List.filter_append, hfr]; simp [hh]⟩ (by show nl.length - (i + 1) < nl.length - i; omega))
                    | (have hne : j ≠ kk := by omega
                       have ho := outs_ne hy hne
                       exact WX.loop_next (j + 1, (as9, cs9)) ⟨rfl, rfl, rfl, rfl, rfl, rfl, rfl, trivial⟩ ⟨by show j + 1 ≤ _; omega, hb7, hb2, hw, hWn, hSt, hFr, hDe, hIn, by show Blk _ _ _ [vi ba, .slice as9 (outs full kk (j + 1)).length cs9, .slice da de.length dc]; rw [ho]; exact hb12, by show Row _ _ _ esn as9 cs9 (outs full kk (j + 1)); rw [ho]; exact hR9⟩ (by show sn.length - (j + 1) < sn.length - j; omega))
                    | (have hee : j = kk := by omega
                       have ho : outs full kk (j + 1) = outs full kk j := by rw [hee]; exact outs_eq (by omega)
                       have hms := mix_same hfl (j := j) (by
                         rcases hfull with ⟨x1, hx1, _, rfl⟩ | ⟨_, _, rfl⟩
                         ·
                           rw [List.getElem?_set_ne (by omega)]
                         ·
                           rfl) (by omega)
                       exact WX.loop_next (j + 1, (oao, oc)) ⟨rfl, rfl, rfl, rfl, rfl, rfl, rfl, trivial⟩ ⟨by show j + 1 ≤ _; omega, hb7, hb2, hw, by show Row _ _ _ esn _ sc (full.take (j + 1) ++ sn.drop (j + 1)); rw [← hms]; exact hSn, hSt, hFr, hDe, hIn, by show Blk _ _ _ [vi ba, .slice oao (outs full kk (j + 1)).length oc, .slice da de.length dc]; rw [ho]; exact hb12, by show Row _ _ _ esn oao oc (outs full kk (j + 1)); rw [ho]; exact hOut⟩ (by show sn.length - (j + 1) < sn.length - j; omega))
            ·
              refine WL.nil (WX.then_normal (WC.cond_false rfl (WC.exit (WX.then_exit (WX.then_exit (WX.block_here (WX.then_normal (?_))))))))
              refine WC.seq (WC.seq (WC.region (WL.move rfl rfl (WL.fieldAddr (fld_25_1) rfl rfl (WL.loadB Try.isAgg22 hb7 rfl rfl rfl (WL.len Try.underlying22 rfl rfl (WL.sub64 rfl rfl (by first | omega | (constructor <;> omega)) rfl (?_))))))))
              refine WL.eql? rfl rfl rfl (fun h122 => ?_) (fun h122 => ?_)
              ·
                refine WL.nil (WX.then_normal (WC.cond_true rfl (WC.region (WL.move rfl rfl (WL.fieldAddr (fld_25_2) rfl rfl (?_))))))
                refine WL.store Try.sizeOf23 hb12 rfl rfl rfl rfl ?_
                intro w_5 hs_5 hn_5 k_5
                have zs_k_5 := k_5.size
                replace hb7 := hb7.chg k_5 (by first | (intro x h1 h2; exact h2) | (intro x h1 h2; have h3 : _ = _ := h2; subst h3; assumption) | (intro x h1 h2; have h3 : _ = _ := h2; exfalso; omega) | (intro b h1 h2 h3; have h4 : _ = _ := h3; (try dsimp only at h2); exfalso; omega) | (intro h1; have h2 : _ = _ := h1; exfalso; omega) | (intro h1; have h2 : _ ≤ _ := h1; exfalso; omega) | (intros; exfalso; (try dsimp only at *); omega) | (intro h1; exfalso; have h4 := h1.2; (try dsimp only at *); omega) | (intro x h1 h2; exact h2.1))
                replace hb2 := hb2.chg k_5 (by first | (intro x h1 h2; exact h2) | (intro x h1 h2; have h3 : _ = _ := h2; subst h3; assumption) | (intro x h1 h2; have h3 : _ = _ := h2; exfalso; omega) | (intro b h1 h2 h3; have h4 : _ = _ := h3; (try dsimp only at h2); exfalso; omega) | (intro h1; have h2 : _ = _ := h1; exfalso; omega) | (intro h1; have h2 : _ ≤ _ := h1; exfalso; omega) | (intros; exfalso; (try dsimp only at *); omega) | (intro h1; exfalso; have h4 := h1.2; (try dsimp only at *); omega) | (intro x h1 h2; exact h2.1))
                replace hw := hw.chg k_5 (by first | (intro x h1 h2; exact h2) | (intro x h1 h2; have h3 : _ = _ := h2; subst h3; assumption) | (intro x h1 h2; have h3 : _ = _ := h2; exfalso; omega) | (intro b h1 h2 h3; have h4 : _ = _ := h3; (try dsimp only at h2); exfalso; omega) | (intro h1; have h2 : _ = _ := h1; exfalso; omega) | (intro h1; have h2 : _ ≤ _ := h1; exfalso; omega) | (intros; exfalso; (try dsimp only at *); omega) | (intro h1; exfalso; have h4 := h1.2; (try dsimp only at *); omega) | (intro x h1 h2; exact h2.1))
                replace hSn := hSn.chg k_5 (by first | (intro x h1 h2; exact h2) | (intro x h1 h2; have h3 : _ = _ := h2; subst h3; assumption) | (intro x h1 h2; have h3 : _ = _ := h2; exfalso; omega) | (intro b h1 h2 h3; have h4 : _ = _ := h3; (try dsimp only at h2); exfalso; omega) | (intro h1; have h2 : _ = _ := h1; exfalso; omega) | (intro h1; have h2 : _ ≤ _ := h1; exfalso; omega) | (intros; exfalso; (try dsimp only at *); omega) | (intro h1; exfalso; have h4 := h1.2; (try dsimp only at *); omega) | (intro x h1 h2; exact h2.1))
                replace hSt := hSt.chg k_5 (by first | (intro x h1 h2; exact h2) | (intro x h1 h2; have h3 : _ = _ := h2; subst h3; assumption) | (intro x h1 h2; have h3 : _ = _ := h2; exfalso; omega) | (intro b h1 h2 h3; have h4 : _ = _ := h3; (try dsimp only at h2); exfalso; omega) | (intro h1; have h2 : _ = _ := h1; exfalso; omega) | (intro h1; have h2 : _ ≤ _ := h1; exfalso; omega) | (intros; exfalso; (try dsimp only at *); omega) | (intro h1; exfalso; have h4 := h1.2; (try dsimp only at *); omega) | (intro x h1 h2; exact h2.1))
                replace hFr := hFr.chg k_5 (by first | (intro x h1 h2; exact h2) | (intro x h1 h2; have h3 : _ = _ := h2; subst h3; assumption) | (intro x h1 h2; have h3 : _ = _ := h2; exfalso; omega) | (intro b h1 h2 h3; have h4 : _ = _ := h3; (try dsimp only at h2); exfalso; omega) | (intro h1; have h2 : _ = _ := h1; exfalso; omega) | (intro h1; have h2 : _ ≤ _ := h1; exfalso; omega) | (intros; exfalso; (try dsimp only at *); omega) | (intro h1; exfalso; have h4 := h1.2; (try dsimp only at *); omega) | (intro x h1 h2; exact h2.1))
                replace hDe := hDe.chg k_5 (by first | (intro x h1 h2; exact h2) | (intro x h1 h2; have h3 : _ = _ := h2; subst h3; assumption) | (intro x h1 h2; have h3 : _ = _ := h2; exfalso; omega) | (intro b h1 h2 h3; have h4 : _ = _ := h3; (try dsimp only at h2); exfalso; omega) | (intro h1; have h2 : _ = _ := h1; exfalso; omega) | (intro h1; have h2 : _ ≤ _ := h1; exfalso; omega) | (intros; exfalso; (try dsimp only at *); omega) | (intro h1; exfalso; have h4 := h1.2; (try dsimp only at *); omega) | (intro x h1 h2; exact h2.1))
                replace hIn := hIn.chg k_5 (by first | (intro x h1 h2; exact h2) | (intro x h1 h2; have h3 : _ = _ := h2; subst h3; assumption) | (intro x h1 h2; have h3 : _ = _ := h2; exfalso; omega) | (intro b h1 h2 h3; have h4 : _ = _ := h3; (try dsimp only at h2); exfalso; omega) | (intro h1; have h2 : _ = _ := h1; exfalso; omega) | (intro h1; have h2 : _ ≤ _ := h1; exfalso; omega) | (intros; exfalso; (try dsimp only at *); omega) | (intro h1; exfalso; have h4 := h1.2; (try dsimp only at *); omega) | (intro x h1 h2; exact h2.1))
                replace hOut := hOut.chg k_5 (by first | (intro x h1 h2; exact h2) | (intro x h1 h2; have h3 : _ = _ := h2; subst h3; assumption) | (intro x h1 h2; have h3 : _ = _ := h2; exfalso; omega) | (intro b h1 h2 h3; have h4 : _ = _ := h3; (try dsimp only at h2); exfalso; omega) | (intro h1; have h2 : _ = _ := h1; exfalso; omega) | (intro h1; have h2 : _ ≤ _ := h1; exfalso; omega) | (intros; exfalso; (try dsimp only at *); omega) | (intro h1; exfalso; have h4 := h1.2; (try dsimp only at *); omega) | (intro x h1 h2; exact h2.1))
                replace hb12 := hn_5
                refine WL.nil (WX.then_normal (WC.seq (WC.region (WL.loadsB Try.isAgg25 Try.sizeOf25 hb12 rfl (by first | (simp; done) | (simp; omega) | rfl) rfl (WL.move rfl rfl (?_))))))
                refine WL.stores Try.sizeOf25 hb2 rfl rfl (by first | (simp; done) | (simp; omega) | rfl) (by first | exact Enc.one _ _ | (intro u hu; obtain ⟨x, _, rfl⟩ := List.mem_map.1 hu; rfl) | (simp [Value.oneCell']; done) | (simp [Value.oneCell', Value.cells]; done)) (by first | (simp; done) | (simp; omega) | (simp [Value.cells]; done) | (simp [Value.cells]; omega) | exact Nat.le_of_ble_eq_true rfl) rfl ?_
                intro w_6 hs_6 hn_6 k_6
                have zs_k_6 := k_6.size
                replace hb7 := hb7.chg k_6 (by first | (intro x h1 h2; exact h2) | (intro x h1 h2; have h3 : _ = _ := h2; subst h3; assumption) | (intro x h1 h2; have h3 : _ = _ := h2; exfalso; omega) | (intro b h1 h2 h3; have h4 : _ = _ := h3; (try dsimp only at h2); exfalso; omega) | (intro h1; have h2 : _ = _ := h1; exfalso; omega) | (intro h1; have h2 : _ ≤ _ := h1; exfalso; omega) | (intros; exfalso; (try dsimp only at *); omega) | (intro h1; exfalso; have h4 := h1.2; (try dsimp only at *); omega) | (intro x h1 h2; exact h2.1))
                replace hw := hw.chg k_6 (by first | (intro x h1 h2; exact h2) | (intro x h1 h2; have h3 : _ = _ := h2; subst h3; assumption) | (intro x h1 h2; have h3 : _ = _ := h2; exfalso; omega) | (intro b h1 h2 h3; have h4 : _ = _ := h3; (try dsimp only at h2); exfalso; omega) | (intro h1; have h2 : _ = _ := h1; exfalso; omega) | (intro h1; have h2 : _ ≤ _ := h1; exfalso; omega) | (intros; exfalso; (try dsimp only at *); omega) | (intro h1; exfalso; have h4 := h1.2; (try dsimp only at *); omega) | (intro x h1 h2; exact h2.1))
                replace hSn := hSn.chg k_6 (by first | (intro x h1 h2; exact h2) | (intro x h1 h2; have h3 : _ = _ := h2; subst h3; assumption) | (intro x h1 h2; have h3 : _ = _ := h2; exfalso; omega) | (intro b h1 h2 h3; have h4 : _ = _ := h3; (try dsimp only at h2); exfalso; omega) | (intro h1; have h2 : _ = _ := h1; exfalso; omega) | (intro h1; have h2 : _ ≤ _ := h1; exfalso; omega) | (intros; exfalso; (try dsimp only at *); omega) | (intro h1; exfalso; have h4 := h1.2; (try dsimp only at *); omega) | (intro x h1 h2; exact h2.1))
                replace hSt := hSt.chg k_6 (by first | (intro x h1 h2; exact h2) | (intro x h1 h2; have h3 : _ = _ := h2; subst h3; assumption) | (intro x h1 h2; have h3 : _ = _ := h2; exfalso; omega) | (intro b h1 h2 h3; have h4 : _ = _ := h3; (try dsimp only at h2); exfalso; omega) | (intro h1; have h2 : _ = _ := h1; exfalso; omega) | (intro h1; have h2 : _ ≤ _ := h1; exfalso; omega) | (intros; exfalso; (try dsimp only at *); omega) | (intro h1; exfalso; have h4 := h1.2; (try dsimp only at *); omega) | (intro x h1 h2; exact h2.1))
                replace hFr := hFr.chg k_6 (by first | (intro x h1 h2; exact h2) | (intro x h1 h2; have h3 : _ = _ := h2; subst h3; assumption) | (intro x h1 h2; have h3 : _ = _ := h2; exfalso; omega) | (intro b h1 h2 h3; have h4 : _ = _ := h3; (try dsimp only at h2); exfalso; omega) | (intro h1; have h2 : _ = _ := h1; exfalso; omega) | (intro h1; have h2 : _ ≤ _ := h1; exfalso; omega) | (intros; exfalso; (try dsimp only at *); omega) | (intro h1; exfalso; have h4 := h1.2; (try dsimp only at *); omega) | (intro x h1 h2; exact h2.1))
                replace hDe := hDe.chg k_6 (by first | (intro x h1 h2; exact h2) | (intro x h1 h2; have h3 : _ = _ := h2; subst h3; assumption) | (intro x h1 h2; have h3 : _ = _ := h2; exfalso; omega) | (intro b h1 h2 h3; have h4 : _ = _ := h3; (try dsimp only at h2); exfalso; omega) | (intro h1; have h2 : _ = _ := h1; exfalso; omega) | (intro h1; have h2 : _ ≤ _ := h1; exfalso; omega) | (intros; exfalso; (try dsimp only at *); omega) | (intro h1; exfalso; have h4 := h1.2; (try dsimp only at *); omega) | (intro x h1 h2; exact h2.1))
                replace hIn := hIn.chg k_6 (by first | (intro x h1 h2; exact h2) | (intro x h1 h2; have h3 : _ = _ := h2; subst h3; assumption) | (intro x h1 h2; have h3 : _ = _ := h2; exfalso; omega) | (intro b h1 h2 h3; have h4 : _ = _ := h3; (try dsimp only at h2); exfalso; omega) | (intro h1; have h2 : _ = _ := h1; exfalso; omega) | (intro h1; have h2 : _ ≤ _ := h1; exfalso; omega) | (intros; exfalso; (try dsimp only at *); omega) | (intro h1; exfalso; have h4 := h1.2; (try dsimp only at *); omega) | (intro x h1 h2; exact h2.1))
                replace hb12 := hb12.chg k_6 (by first | (intro x h1 h2; exact h2) | (intro x h1 h2; have h3 : _ = _ := h2; subst h3; assumption) | (intro x h1 h2; have h3 : _ = _ := h2; exfalso; omega) | (intro b h1 h2 h3; have h4 : _ = _ := h3; (try dsimp only at h2); exfalso; omega) | (intro h1; have h2 : _ = _ := h1; exfalso; omega) | (intro h1; have h2 : _ ≤ _ := h1; exfalso; omega) | (intros; exfalso; (try dsimp only at *); omega) | (intro h1; exfalso; have h4 := h1.2; (try dsimp only at *); omega) | (intro x h1 h2; exact h2.1))
                replace hOut := hOut.chg k_6 (by first | (intro x h1 h2; exact h2) | (intro x h1 h2; have h3 : _ = _ := h2; subst h3; assumption) | (intro x h1 h2; have h3 : _ = _ := h2; exfalso; omega) | (intro b h1 h2 h3; have h4 : _ = _ := h3; (try dsimp only at h2); exfalso; omega) | (intro h1; have h2 : _ = _ := h1; exfalso; omega) | (intro h1; have h2 : _ ≤ _ := h1; exfalso; omega) | (intros; exfalso; (try dsimp only at *); omega) | (intro h1; exfalso; have h4 := h1.2; (try dsimp only at *); omega) | (intro x h1 h2; exact h2.1))
                replace hb2 := hn_6
                refine WL.assign rfl rfl (WL.assign rfl rfl (WL.nil (WX.then_normal (WC.ret (?_)))))
                refine WX.ret3c (.inl rfl) Try.results18 Try.isAgg25 Try.sizeOf25 hb2 rfl (by first | (simp; done) | (simp; omega) | rfl) rfl rfl ?_
                first
                  | exact ⟨_, rfl, ⟨⟨0, none, 0, [], none, 0, []⟩, none, 0, [], 2, rfl, .inl ⟨(fun hR => by have := hb.2 hR; cases this), rfl, rfl, rfl⟩, ⟨RSl.nil _ _ _ _ _, RSl.nil _ _ _ _ _, fun x hx => by cases hx⟩, RSl.nil _ _ _ _ _⟩, hw⟩
                  | (have hh : k < 0 ∨ (l.abs.snaps.length : Int) ≤ k := by
                       rw [show l.abs.snaps.length = l.snaps.length from sabs_len _]
                       omega
                     exact ⟨_, rfl, ⟨⟨0, none, 0, [], none, 0, []⟩, none, 0, [], 1, rfl, .inr (.inl ⟨hb.1 rfl, hh, rfl, rfl, rfl⟩), ⟨RSl.nil _ _ _ _ _, RSl.nil _ _ _ _ _, fun x hx => by cases hx⟩, RSl.nil _ _ _ _ _⟩, hw⟩)
                  | (have h122' : (kk : Int) = (sn.length : Int) - 1 := h122
                     obtain rfl : j = full.length := by omega
                     rw [outs_all] at hOut hb12 ⊢
                     rw [hah] at hst hfr
                     obtain ⟨hx1, hn1, rfl⟩ : sn[kk + 1]? = none ∧ nl = de ∧ full = sn := by
                       rcases hfull with ⟨x1, h1, _⟩ | h1
                       ·
                         have := (List.getElem?_eq_some_iff.1 h1).1
                         omega
                       ·
                         exact h1
                     rw [hn1, ← hds] at hst hfr
                     obtain ⟨hd6, hn6⟩ := dest_B (L := l.abs) hsa.symm hx0 hx1 hst
                     rw [hbs] at hd6
                     refine ⟨_, rfl, ⟨⟨ba, oao, oc, full.take kk ++ full.drop (kk + 1), sao, sc2, st⟩, fao, fc, fr, 0, rfl, .inr (.inr ⟨hR, ?_, hd6, by rw [freeA, Int.toNat_natCast, hn6]; exact hfr, rfl⟩), ⟨hOut.rsl.mono (fun x hx => by have h1 := hx.1; omega), hSt.mono (fun x hx => hx.1.1), fun x hx => (hIn.all x (outs_mem (j := full.length) (k := kk) (by rw [outs_all]; exact hx))).mono (fun x hx => hx.1.1)⟩, hFr.mono (fun x hx => hx.1.1)⟩, hw⟩
                     rw [show l.abs.snaps.length = l.snaps.length from sabs_len _]
                     omega)
                  | (have h122' : ¬ (kk : Int) = (sn.length : Int) - 1 := h122
                     obtain rfl : j = full.length := by omega
                     rw [outs_all] at hOut hb12 ⊢
                     rw [hah] at hst hfr
                     obtain ⟨x1, hx1, hn1, rfl⟩ : ∃ x1 : SnV, sn[kk + 1]? = some x1 ∧ nl = x1.dead ∧ full = sn.set (kk + 1) ⟨x1.txg, sao, sc2, st⟩ := by
                       rcases hfull with h1 | ⟨h1, _⟩
                       ·
                         exact h1
                       ·
                         have := List.getElem?_eq_none_iff.1 h1
                         omega
                     rw [hn1] at hst hfr
                     obtain ⟨hd6, hn6⟩ := dest_A (L := l.abs) hsa.symm hx0 hx1 hst sao sc2
                     rw [hbs, hds] at hd6
                     refine ⟨_, rfl, ⟨⟨ba, oao, oc, (sn.set (kk + 1) ⟨x1.txg, sao, sc2, st⟩).take kk ++ (sn.set (kk + 1) ⟨x1.txg, sao, sc2, st⟩).drop (kk + 1), da, dc, de⟩, fao, fc, fr, 0, rfl, .inr (.inr ⟨hR, ?_, hd6, by rw [freeA, Int.toNat_natCast, hn6]; exact hfr, rfl⟩), ⟨hOut.rsl.mono (fun x hx => by have h1 := hx.1; omega), hDe.mono (fun x hx => hx.1.1), fun x hx => (hIn.all x (outs_mem (j := (sn.set (kk + 1) ⟨x1.txg, sao, sc2, st⟩).length) (k := kk) (by rw [outs_all]; exact hx))).mono (fun x hx => hx.1.1)⟩, hFr.mono (fun x hx => hx.1.1)⟩, hw⟩
                     rw [show l.abs.snaps.length = l.snaps.length from sabs_len _]
                     omega)
              ·
                refine WL.nil (WX.then_normal (WC.cond_false rfl (WC.skip (WX.then_normal (WC.seq (WC.region (WL.loadsB Try.isAgg25 Try.sizeOf25 hb12 rfl (by first | (simp; done) | (simp; omega) | rfl) rfl (?_))))))))
                refine WL.move rfl rfl (?_)
                refine WL.stores Try.sizeOf25 hb2 rfl rfl (by first | (simp; done) | (simp; omega) | rfl) (by first | exact Enc.one _ _ | (intro u hu; obtain ⟨x, _, rfl⟩ := List.mem_map.1 hu; rfl) | (simp [Value.oneCell']; done) | (simp [Value.oneCell', Value.cells]; done)) (by first | (simp; done) | (simp; omega) | (simp [Value.cells]; done) | (simp [Value.cells]; omega) | exact Nat.le_of_ble_eq_true rfl) rfl ?_
                intro w_5 hs_5 hn_5 k_5
                have zs_k_5 := k_5.size
                replace hb7 := hb7.chg k_5 (by first | (intro x h1 h2; exact h2) | (intro x h1 h2; have h3 : _ = _ := h2; subst h3; assumption) | (intro x h1 h2; have h3 : _ = _ := h2; exfalso; omega) | (intro b h1 h2 h3; have h4 : _ = _ := h3; (try dsimp only at h2); exfalso; omega) | (intro h1; have h2 : _ = _ := h1; exfalso; omega) | (intro h1; have h2 : _ ≤ _ := h1; exfalso; omega) | (intros; exfalso; (try dsimp only at *); omega) | (intro h1; exfalso; have h4 := h1.2; (try dsimp only at *); omega) | (intro x h1 h2; exact h2.1))
                replace hw := hw.chg k_5 (by first | (intro x h1 h2; exact h2) | (intro x h1 h2; have h3 : _ = _ := h2; subst h3; assumption) | (intro x h1 h2; have h3 : _ = _ := h2; exfalso; omega) | (intro b h1 h2 h3; have h4 : _ = _ := h3; (try dsimp only at h2); exfalso; omega) | (intro h1; have h2 : _ = _ := h1; exfalso; omega) | (intro h1; have h2 : _ ≤ _ := h1; exfalso; omega) | (intros; exfalso; (try dsimp only at *); omega) | (intro h1; exfalso; have h4 := h1.2; (try dsimp only at *); omega) | (intro x h1 h2; exact h2.1))
                replace hSn := hSn.chg k_5 (by first | (intro x h1 h2; exact h2) | (intro x h1 h2; have h3 : _ = _ := h2; subst h3; assumption) | (intro x h1 h2; have h3 : _ = _ := h2; exfalso; omega) | (intro b h1 h2 h3; have h4 : _ = _ := h3; (try dsimp only at h2); exfalso; omega) | (intro h1; have h2 : _ = _ := h1; exfalso; omega) | (intro h1; have h2 : _ ≤ _ := h1; exfalso; omega) | (intros; exfalso; (try dsimp only at *); omega) | (intro h1; exfalso; have h4 := h1.2; (try dsimp only at *); omega) | (intro x h1 h2; exact h2.1))
                replace hSt := hSt.chg k_5 (by first | (intro x h1 h2; exact h2) | (intro x h1 h2; have h3 : _ = _ := h2; subst h3; assumption) | (intro x h1 h2; have h3 : _ = _ := h2; exfalso; omega) | (intro b h1 h2 h3; have h4 : _ = _ := h3; (try dsimp only at h2); exfalso; omega) | (intro h1; have h2 : _ = _ := h1; exfalso; omega) | (intro h1; have h2 : _ ≤ _ := h1; exfalso; omega) | (intros; exfalso; (try dsimp only at *); omega) | (intro h1; exfalso; have h4 := h1.2; (try dsimp only at *); omega) | (intro x h1 h2; exact h2.1))
                replace hFr := hFr.chg k_5 (by first | (intro x h1 h2; exact h2) | (intro x h1 h2; have h3 : _ = _ := h2; subst h3; assumption) | (intro x h1 h2; have h3 : _ = _ := h2; exfalso; omega) | (intro b h1 h2 h3; have h4 : _ = _ := h3; (try dsimp only at h2); exfalso; omega) | (intro h1; have h2 : _ = _ := h1; exfalso; omega) | (intro h1; have h2 : _ ≤ _ := h1; exfalso; omega) | (intros; exfalso; (try dsimp only at *); omega) | (intro h1; exfalso; have h4 := h1.2; (try dsimp only at *); omega) | (intro x h1 h2; exact h2.1))
                replace hDe := hDe.chg k_5 (by first | (intro x h1 h2; exact h2) | (intro x h1 h2; have h3 : _ = _ := h2; subst h3; assumption) | (intro x h1 h2; have h3 : _ = _ := h2; exfalso; omega) | (intro b h1 h2 h3; have h4 : _ = _ := h3; (try dsimp only at h2); exfalso; omega) | (intro h1; have h2 : _ = _ := h1; exfalso; omega) | (intro h1; have h2 : _ ≤ _ := h1; exfalso; omega) | (intros; exfalso; (try dsimp only at *); omega) | (intro h1; exfalso; have h4 := h1.2; (try dsimp only at *); omega) | (intro x h1 h2; exact h2.1))
                replace hIn := hIn.chg k_5 (by first | (intro x h1 h2; exact h2) | (intro x h1 h2; have h3 : _ = _ := h2; subst h3; assumption) | (intro x h1 h2; have h3 : _ = _ := h2; exfalso; omega) | (intro b h1 h2 h3; have h4 : _ = _ := h3; (try dsimp only at h2); exfalso; omega) | (intro h1; have h2 : _ = _ := h1; exfalso; omega) | (intro h1; have h2 : _ ≤ _ := h1; exfalso; omega) | (intros; exfalso; (try dsimp only at *); omega) | (intro h1; exfalso; have h4 := h1.2; (try dsimp only at *); omega) | (intro x h1 h2; exact h2.1))
                replace hb12 := hb12.chg k_5 (by first | (intro x h1 h2; exact h2) | (intro x h1 h2; have h3 : _ = _ := h2; subst h3; assumption) | (intro x h1 h2; have h3 : _ = _ := h2; exfalso; omega) | (intro b h1 h2 h3; have h4 : _ = _ := h3; (try dsimp only at h2); exfalso; omega) | (intro h1; have h2 : _ = _ := h1; exfalso; omega) | (intro h1; have h2 : _ ≤ _ := h1; exfalso; omega) | (intros; exfalso; (try dsimp only at *); omega) | (intro h1; exfalso; have h4 := h1.2; (try dsimp only at *); omega) | (intro x h1 h2; exact h2.1))
                replace hOut := hOut.chg k_5 (by first | (intro x h1 h2; exact h2) | (intro x h1 h2; have h3 : _ = _ := h2; subst h3; assumption) | (intro x h1 h2; have h3 : _ = _ := h2; exfalso; omega) | (intro b h1 h2 h3; have h4 : _ = _ := h3; (try dsimp only at h2); exfalso; omega) | (intro h1; have h2 : _ = _ := h1; exfalso; omega) | (intro h1; have h2 : _ ≤ _ := h1; exfalso; omega) | (intros; exfalso; (try dsimp only at *); omega) | (intro h1; exfalso; have h4 := h1.2; (try dsimp only at *); omega) | (intro x h1 h2; exact h2.1))
                replace hb2 := hn_5
                refine WL.assign rfl rfl (WL.assign rfl rfl (WL.nil (WX.then_normal (WC.ret (?_)))))
                refine WX.ret3c (.inl rfl) Try.results18 Try.isAgg25 Try.sizeOf25 hb2 rfl (by first | (simp; done) | (simp; omega) | rfl) rfl rfl ?_
                first
                  | exact ⟨_, rfl, ⟨⟨0, none, 0, [], none, 0, []⟩, none, 0, [], 2, rfl, .inl ⟨(fun hR => by have := hb.2 hR; cases this), rfl, rfl, rfl⟩, ⟨RSl.nil _ _ _ _ _, RSl.nil _ _ _ _ _, fun x hx => by cases hx⟩, RSl.nil _ _ _ _ _⟩, hw⟩
                  | (have hh : k < 0 ∨ (l.abs.snaps.length : Int) ≤ k := by
                       rw [show l.abs.snaps.length = l.snaps.length from sabs_len _]
                       omega
                     exact ⟨_, rfl, ⟨⟨0, none, 0, [], none, 0, []⟩, none, 0, [], 1, rfl, .inr (.inl ⟨hb.1 rfl, hh, rfl, rfl, rfl⟩), ⟨RSl.nil _ _ _ _ _, RSl.nil _ _ _ _ _, fun x hx => by cases hx⟩, RSl.nil _ _ _ _ _⟩, hw⟩)
                  | (have h122' : (kk : Int) = (sn.length : Int) - 1 := h122
                     obtain rfl : j = full.length := by omega
                     rw [outs_all] at hOut hb12 ⊢
                     rw [hah] at hst hfr
                     obtain ⟨hx1, hn1, rfl⟩ : sn[kk + 1]? = none ∧ nl = de ∧ full = sn := by
                       rcases hfull with ⟨x1, h1, _⟩ | h1
                       ·
                         have := (List.getElem?_eq_some_iff.1 h1).1
                         omega
                       ·
                         exact h1
                     rw [hn1, ← hds] at hst hfr
                     obtain ⟨hd6, hn6⟩ := dest_B (L := l.abs) hsa.symm hx0 hx1 hst
                     rw [hbs] at hd6
                     refine ⟨_, rfl, ⟨⟨ba, oao, oc, full.take kk ++ full.drop (kk + 1), sao, sc2, st⟩, fao, fc, fr, 0, rfl, .inr (.inr ⟨hR, ?_, hd6, by rw [freeA, Int.toNat_natCast, hn6]; exact hfr, rfl⟩), ⟨hOut.rsl.mono (fun x hx => by have h1 := hx.1; omega), hSt.mono (fun x hx => hx.1.1), fun x hx => (hIn.all x (outs_mem (j := full.length) (k := kk) (by rw [outs_all]; exact hx))).mono (fun x hx => hx.1.1)⟩, hFr.mono (fun x hx => hx.1.1)⟩, hw⟩
                     rw [show l.abs.snaps.length = l.snaps.length from sabs_len _]
                     omega)
                  | (have h122' : ¬ (kk : Int) = (sn.length : Int) - 1 := h122
                     obtain rfl : j = full.length := by omega
                     rw [outs_all] at hOut hb12 ⊢
                     rw [hah] at hst hfr
                     obtain ⟨x1, hx1, hn1, rfl⟩ : ∃ x1 : SnV, sn[kk + 1]? = some x1 ∧ nl = x1.dead ∧ full = sn.set (kk + 1) ⟨x1.txg, sao, sc2, st⟩ := by
                       rcases hfull with h1 | ⟨h1, _⟩
                       ·
                         exact h1
                       ·
                         have := List.getElem?_eq_none_iff.1 h1
                         omega
                     rw [hn1] at hst hfr
                     obtain ⟨hd6, hn6⟩ := dest_A (L := l.abs) hsa.symm hx0 hx1 hst sao sc2
                     rw [hbs, hds] at hd6
                     refine ⟨_, rfl, ⟨⟨ba, oao, oc, (sn.set (kk + 1) ⟨x1.txg, sao, sc2, st⟩).take kk ++ (sn.set (kk + 1) ⟨x1.txg, sao, sc2, st⟩).drop (kk + 1), da, dc, de⟩, fao, fc, fr, 0, rfl, .inr (.inr ⟨hR, ?_, hd6, by rw [freeA, Int.toNat_natCast, hn6]; exact hfr, rfl⟩), ⟨hOut.rsl.mono (fun x hx => by have h1 := hx.1; omega), hDe.mono (fun x hx => hx.1.1), fun x hx => (hIn.all x (outs_mem (j := (sn.set (kk + 1) ⟨x1.txg, sao, sc2, st⟩).length) (k := kk) (by rw [outs_all]; exact hx))).mono (fun x hx => hx.1.1)⟩, hFr.mono (fun x hx => hx.1.1)⟩, hw⟩
                     rw [show l.abs.snaps.length = l.snaps.length from sabs_len _]
                     omega)
end Go.Proofs.Ytgmkoieemmglpaa
