import Derived.Test.YtgmkoieemmglpaaDh
import Derived.Test.YtgmkoieemmglpaaDk0
import Derived.Test.YtgmkoieemmglpaaDs
import Derived.Test.YtgmkoieemmglpaaIa
namespace Go.Proofs.Ytgmkoieemmglpaa
open Go.RowKit Go.HL

/-! lines with spare room that is known -/
abbrev zp : PtV := ⟨0, 0, 0, ByteArray.empty⟩
structure Sp2 (S : Nat → Prop) (w : World) (ao : Option Addr) (c : Nat) (ps : List PtV) : Prop where
  blk : ∃ g, ao = some ⟨g, 0, none⟩ ∧ S g ∧ Blk w g 27 (ept.all (ps ++ [zp, zp]))
  cap : c = ps.length + 2
section
variable {S S' M : Nat → Prop} {w w' : World} {ao : Option Addr} {c : Nat} {ps : List PtV}
theorem Sp2.chg (h : Sp2 S w ao c ps) (k : Chg M w w') (hd : ∀ b, b < w.heap.size → S b → M b → False) : Sp2 S w' ao c ps := by
  obtain ⟨⟨g, e, hS, hb⟩, hc⟩ := h
  exact ⟨⟨g, e, hS, hb.chg k (fun hm => hd g hb.lt hS hm)⟩, hc⟩
theorem Sp2.chgK (h : Sp2 S w ao c ps) (k : Chg M w w') (hd : ∀ b, b < w.heap.size → M b → kb w b ≠ some (some 27)) : Sp2 S w' ao c ps := by
  obtain ⟨⟨g, e, hS, hb⟩, hc⟩ := h
  exact ⟨⟨g, e, hS, hb.chg k (fun hm => hd g hb.lt hm hb.kb)⟩, hc⟩
theorem Sp2.pure (h : Sp2 S w ao c ps) (k : Chg Nob w w') : Sp2 S w' ao c ps := h.chg k (fun _ _ _ x => x)
theorem Sp2.mono (h : Sp2 S w ao c ps) (k : ∀ b, S b → S' b) : Sp2 S' w ao c ps := by
  obtain ⟨⟨g, e, hS, hb⟩, hc⟩ := h
  exact ⟨⟨g, e, k _ hS, hb⟩, hc⟩
theorem Sp2.lt (h : Sp2 S w ao c ps) : Sp2 (fun b => S b ∧ b < w.heap.size) w ao c ps := by
  obtain ⟨⟨g, e, hS, hb⟩, hc⟩ := h
  exact ⟨⟨g, e, ⟨hS, hb.lt⟩, hb⟩, hc⟩
theorem Sp2.full (h : Sp2 S w ao c ps) : RSl S w ept ao c (ps ++ [zp, zp]) := by
  obtain ⟨⟨g, rfl, hS, hb⟩, hc⟩ := h
  exact (RSl.ofBlk hb (by simp [hc])).mono (fun b e => by have e : b = g := e; rw [e]; exact hS)
theorem Sp2.rsl (h : Sp2 S w ao c ps) : RSl S w ept ao c ps := by
  have := h.full.take ps.length (by simp)
  rwa [List.take_left] at this
end
structure LF (S : Nat → Prop) (w : World) (l : LnV) : Prop where
  snaps : Row S w 65 esn l.sao l.scap l.snaps
  dead : Sp2 S w l.dao l.dcap l.dead
  inner : ∀ x ∈ l.snaps, Sp2 S w x.ao x.cap x.dead
section
variable {S S' M : Nat → Prop} {w w' : World} {l : LnV}
theorem LF.chg (h : LF S w l) (k : Chg M w w') (hd : ∀ b, b < w.heap.size → S b → M b → False) : LF S w' l := ⟨h.snaps.chg k hd, h.dead.chg k hd, fun x hx => (h.inner x hx).chg k hd⟩
theorem LF.pure (h : LF S w l) (k : Chg Nob w w') : LF S w' l := h.chg k (fun _ _ _ x => x)
theorem LF.mono (h : LF S w l) (k : ∀ b, S b → S' b) : LF S' w l := ⟨h.snaps.mono k, h.dead.mono k, fun x hx => (h.inner x hx).mono k⟩
theorem LF.lt (h : LF S w l) : LF (fun b => S b ∧ b < w.heap.size) w l := ⟨h.snaps.lt, h.dead.lt, fun x hx => (h.inner x hx).lt⟩
theorem LF.ls (h : LF S w l) : LS S w l := ⟨h.snaps.rsl, h.dead.rsl, fun x hx => (h.inner x hx).rsl⟩
theorem LF.push {t : Int} {ao : Option Addr} {c : Nat} {ps : List PtV} (h : LF S w l) (hn : Sp2 S w ao c ps) {sa2 : Option Addr} {sc2 : Nat}
    (hr : Row S w' 65 esn sa2 sc2 (l.snaps ++ [⟨t, ao, c, ps⟩])) (g : Grow S' w l.sao w' sa2) : LF S w' { l with sao := sa2, scap := sc2, snaps := l.snaps ++ [⟨t, ao, c, ps⟩] } := by
  have hd : ∀ b, b < w.heap.size → (Eqb l.sao b ∧ S' b) → kb w b ≠ some (some 27) := fun b _ hb e => by
    have h1 := (h.snaps.kb.at_.eqb hb.1).2
    rw [h1] at e
    exact absurd e (by decide)
  refine ⟨hr, h.dead.chgK g.chg hd, fun x hx => ?_⟩
  rcases List.mem_append.1 hx with h1 | h1
  · exact (h.inner x h1).chgK g.chg hd
  · rw [List.mem_singleton.1 h1]
    exact hn.chgK g.chg hd
end
theorem app2 (ps : List PtV) : (List.replicate (ps.length + 2) zp).take 0 ++ ps ++ (List.replicate (ps.length + 2) zp).drop (0 + ps.length) = ps ++ [zp, zp] := by
  rw [List.take_zero, List.nil_append, Nat.zero_add, List.drop_replicate, show ps.length + 2 - ps.length = 2 from by omega]
  rfl
set_option maxHeartbeats 4000000 in
theorem ofF_calls {S : Nat → Prop} {w : World} {l : LnV} (h : LS S w l) (hs : Sm 20 l) : Calls Try.prog 10 [lval l].toArray w (Ret fun v w' => (∃ l', v = lval l' ∧ LF (w.heap.size ≤ ·) w' l' ∧ l'.abs = l.abs) ∧ Chg Nob w w') := by
  have hw := Chg.refl Nob w
  have hsn := hs.snaps
  have hsd := hs.dead
  replace h := h.old
  obtain ⟨ba, sa, sc, sn, da, dc, de⟩ := l
  simp only at hsn hsd
  refine Calls.of_WC Try.func10 rfl Try.ntmps10 (by simp) ?_
  refine WC.seq (WC.region (?_))
  refine WL.box rfl rfl ?_
  intro g_1 w_1 hge_1 hlt_1 hb_1 k_1
  have zs_k_1 := k_1.size
  replace h := h.pure k_1
  replace hw := hw.pure k_1
  refine WL.alloc Try.zeroValue33 rfl ?_
  intro g_2 w_2 hge_2 hlt_2 hb_2 k_2
  have zs_k_2 := k_2.size
  replace h := h.pure k_2
  replace hw := hw.pure k_2
  replace hb_1 := hb_1.pure k_2
  refine WL.nil (WX.then_normal (WC.seq (?_)))
  have hb1 : Blk _ g_1 25 [vi ba, .slice sa sn.length sc, .slice da de.length dc] := hb_1
  have zw1 := hw.size
  refine WC.drawM ((fun x => w.heap.size ≤ x ∧ x ≠ g_1 ∧ x ≠ g_2)) [0, 1, 2, 3, 4, 5, 7, 8] [6, 9, 10, 11, 12] mixed rfl rfl (fun wd_3 kd_3 zd_3 => ?_)
  have zs_kd_3 := kd_3.size
  replace h := h.pure kd_3
  replace hw := hw.pure kd_3
  replace hb_2 := hb_2.pure kd_3
  replace hb1 := hb1.pure kd_3
  apply DQT.step (E' := [(1, _)])
  case ho => rfl
  case hs => exact ⟨rfl, trivial⟩
  case hk => rfl
  case h1 =>
    intro wq_5 kq_5
    refine WL.fieldAddr (fld_25_0) rfl rfl (?_)
    refine WL.nil ?_
    exact WX.one ⟨rfl, by first | exact Chg.refl _ _ | assumption⟩
  apply DQT.step (E' := [(5, _)])
  case ho => rfl
  case hs => exact ⟨rfl, trivial⟩
  case hk => rfl
  case h1 =>
    intro wq_6 kq_6
    have zs_kq_6 := kq_6.size
    replace h := h.chg kq_6 (by first | (intro x h1 h2; exact h2) | (intro x h1 h2; have h3 : _ = _ := h2; subst h3; assumption) | (intro x h1 h2; have h3 : _ = _ := h2; exfalso; omega) | (intro b h1 h2 h3; have h4 : _ = _ := h3; (try dsimp only at h2); exfalso; omega) | (intro h1; have h2 : _ = _ := h1; exfalso; omega) | (intros; exfalso; (try dsimp only at *); omega) | (intro h1; exfalso; have h4 := h1.2; (try dsimp only at *); omega) | (intro x h1 h2; exact h2.1))
    replace hw := hw.chg kq_6 (by first | (intro x h1 h2; exact h2) | (intro x h1 h2; have h3 : _ = _ := h2; subst h3; assumption) | (intro x h1 h2; have h3 : _ = _ := h2; exfalso; omega) | (intro b h1 h2 h3; have h4 : _ = _ := h3; (try dsimp only at h2); exfalso; omega) | (intro h1; have h2 : _ = _ := h1; exfalso; omega) | (intros; exfalso; (try dsimp only at *); omega) | (intro h1; exfalso; have h4 := h1.2; (try dsimp only at *); omega) | (intro x h1 h2; exact h2.1))
    replace hb_2 := hb_2.chg kq_6 (by first | (intro x h1 h2; exact h2) | (intro x h1 h2; have h3 : _ = _ := h2; subst h3; assumption) | (intro x h1 h2; have h3 : _ = _ := h2; exfalso; omega) | (intro b h1 h2 h3; have h4 : _ = _ := h3; (try dsimp only at h2); exfalso; omega) | (intro h1; have h2 : _ = _ := h1; exfalso; omega) | (intros; exfalso; (try dsimp only at *); omega) | (intro h1; exfalso; have h4 := h1.2; (try dsimp only at *); omega) | (intro x h1 h2; exact h2.1))
    replace hb1 := hb1.chg kq_6 (by first | (intro x h1 h2; exact h2) | (intro x h1 h2; have h3 : _ = _ := h2; subst h3; assumption) | (intro x h1 h2; have h3 : _ = _ := h2; exfalso; omega) | (intro b h1 h2 h3; have h4 : _ = _ := h3; (try dsimp only at h2); exfalso; omega) | (intro h1; have h2 : _ = _ := h1; exfalso; omega) | (intros; exfalso; (try dsimp only at *); omega) | (intro h1; exfalso; have h4 := h1.2; (try dsimp only at *); omega) | (intro x h1 h2; exact h2.1))
    refine WL.loadB Try.isAgg3 hb1 rfl rfl rfl (?_)
    refine WL.nil ?_
    exact WX.one ⟨rfl, by first | exact Chg.refl _ _ | assumption⟩
  apply DQT.step (E' := [(1, _)])
  case ho => rfl
  case hs => exact ⟨rfl, trivial⟩
  case hk => rfl
  case h1 =>
    intro wq_7 kq_7
    refine WL.fieldAddr (fld_25_2) rfl rfl (?_)
    refine WL.nil ?_
    exact WX.one ⟨rfl, by first | exact Chg.refl _ _ | assumption⟩
  apply DQT.step (E' := [(7, _)])
  case ho => rfl
  case hs => exact ⟨rfl, trivial⟩
  case hk => rfl
  case h1 =>
    intro wq_8 kq_8
    have zs_kq_8 := kq_8.size
    replace h := h.chg kq_8 (by first | (intro x h1 h2; exact h2) | (intro x h1 h2; have h3 : _ = _ := h2; subst h3; assumption) | (intro x h1 h2; have h3 : _ = _ := h2; exfalso; omega) | (intro b h1 h2 h3; have h4 : _ = _ := h3; (try dsimp only at h2); exfalso; omega) | (intro h1; have h2 : _ = _ := h1; exfalso; omega) | (intros; exfalso; (try dsimp only at *); omega) | (intro h1; exfalso; have h4 := h1.2; (try dsimp only at *); omega) | (intro x h1 h2; exact h2.1))
    replace hw := hw.chg kq_8 (by first | (intro x h1 h2; exact h2) | (intro x h1 h2; have h3 : _ = _ := h2; subst h3; assumption) | (intro x h1 h2; have h3 : _ = _ := h2; exfalso; omega) | (intro b h1 h2 h3; have h4 : _ = _ := h3; (try dsimp only at h2); exfalso; omega) | (intro h1; have h2 : _ = _ := h1; exfalso; omega) | (intros; exfalso; (try dsimp only at *); omega) | (intro h1; exfalso; have h4 := h1.2; (try dsimp only at *); omega) | (intro x h1 h2; exact h2.1))
    replace hb_2 := hb_2.chg kq_8 (by first | (intro x h1 h2; exact h2) | (intro x h1 h2; have h3 : _ = _ := h2; subst h3; assumption) | (intro x h1 h2; have h3 : _ = _ := h2; exfalso; omega) | (intro b h1 h2 h3; have h4 : _ = _ := h3; (try dsimp only at h2); exfalso; omega) | (intro h1; have h2 : _ = _ := h1; exfalso; omega) | (intros; exfalso; (try dsimp only at *); omega) | (intro h1; exfalso; have h4 := h1.2; (try dsimp only at *); omega) | (intro x h1 h2; exact h2.1))
    replace hb1 := hb1.chg kq_8 (by first | (intro x h1 h2; exact h2) | (intro x h1 h2; have h3 : _ = _ := h2; subst h3; assumption) | (intro x h1 h2; have h3 : _ = _ := h2; exfalso; omega) | (intro b h1 h2 h3; have h4 : _ = _ := h3; (try dsimp only at h2); exfalso; omega) | (intro h1; have h2 : _ = _ := h1; exfalso; omega) | (intros; exfalso; (try dsimp only at *); omega) | (intro h1; exfalso; have h4 := h1.2; (try dsimp only at *); omega) | (intro x h1 h2; exact h2.1))
    refine WL.loadB Try.isAgg23 hb1 rfl rfl rfl (?_)
    refine WL.nil ?_
    exact WX.one ⟨rfl, by first | exact Chg.refl _ _ | assumption⟩
  apply DQT.step (E' := [(8, _)])
  case ho => rfl
  case hs => exact ⟨rfl, trivial⟩
  case hk => rfl
  case h1 =>
    intro wq_9 kq_9
    have zs_kq_9 := kq_9.size
    replace h := h.chg kq_9 (by first | (intro x h1 h2; exact h2) | (intro x h1 h2; have h3 : _ = _ := h2; subst h3; assumption) | (intro x h1 h2; have h3 : _ = _ := h2; exfalso; omega) | (intro b h1 h2 h3; have h4 : _ = _ := h3; (try dsimp only at h2); exfalso; omega) | (intro h1; have h2 : _ = _ := h1; exfalso; omega) | (intros; exfalso; (try dsimp only at *); omega) | (intro h1; exfalso; have h4 := h1.2; (try dsimp only at *); omega) | (intro x h1 h2; exact h2.1))
    replace hw := hw.chg kq_9 (by first | (intro x h1 h2; exact h2) | (intro x h1 h2; have h3 : _ = _ := h2; subst h3; assumption) | (intro x h1 h2; have h3 : _ = _ := h2; exfalso; omega) | (intro b h1 h2 h3; have h4 : _ = _ := h3; (try dsimp only at h2); exfalso; omega) | (intro h1; have h2 : _ = _ := h1; exfalso; omega) | (intros; exfalso; (try dsimp only at *); omega) | (intro h1; exfalso; have h4 := h1.2; (try dsimp only at *); omega) | (intro x h1 h2; exact h2.1))
    replace hb_2 := hb_2.chg kq_9 (by first | (intro x h1 h2; exact h2) | (intro x h1 h2; have h3 : _ = _ := h2; subst h3; assumption) | (intro x h1 h2; have h3 : _ = _ := h2; exfalso; omega) | (intro b h1 h2 h3; have h4 : _ = _ := h3; (try dsimp only at h2); exfalso; omega) | (intro h1; have h2 : _ = _ := h1; exfalso; omega) | (intros; exfalso; (try dsimp only at *); omega) | (intro h1; exfalso; have h4 := h1.2; (try dsimp only at *); omega) | (intro x h1 h2; exact h2.1))
    replace hb1 := hb1.chg kq_9 (by first | (intro x h1 h2; exact h2) | (intro x h1 h2; have h3 : _ = _ := h2; subst h3; assumption) | (intro x h1 h2; have h3 : _ = _ := h2; exfalso; omega) | (intro b h1 h2 h3; have h4 : _ = _ := h3; (try dsimp only at h2); exfalso; omega) | (intro h1; have h2 : _ = _ := h1; exfalso; omega) | (intros; exfalso; (try dsimp only at *); omega) | (intro h1; exfalso; have h4 := h1.2; (try dsimp only at *); omega) | (intro x h1 h2; exact h2.1))
    refine WL.len Try.underlying23 rfl rfl (?_)
    refine WL.nil ?_
    exact WX.one ⟨rfl, by first | exact Chg.refl _ _ | assumption⟩
  apply DQT.step (E' := [(9, _)])
  case ho => rfl
  case hs => exact ⟨rfl, trivial⟩
  case hk => rfl
  case h1 =>
    intro wq_10 kq_10
    refine WL.add64 rfl rfl (by first | omega | (constructor <;> omega)) rfl (?_)
    refine WL.nil ?_
    exact WX.one ⟨rfl, by first | exact Chg.refl _ _ | assumption⟩
  apply DQT.step (E' := [(1, _)])
  case ho => rfl
  case hs => exact ⟨rfl, trivial⟩
  case hk => rfl
  case h1 =>
    intro wq_11 kq_11
    refine WL.fieldAddr (fld_25_2) rfl rfl (?_)
    refine WL.nil ?_
    exact WX.one ⟨rfl, by first | exact Chg.refl _ _ | assumption⟩
  apply DQT.step (E' := [(12, _)])
  case ho => rfl
  case hs => exact ⟨rfl, trivial⟩
  case hk => rfl
  case h1 =>
    intro wq_12 kq_12
    have zs_kq_12 := kq_12.size
    replace h := h.chg kq_12 (by first | (intro x h1 h2; exact h2) | (intro x h1 h2; have h3 : _ = _ := h2; subst h3; assumption) | (intro x h1 h2; have h3 : _ = _ := h2; exfalso; omega) | (intro b h1 h2 h3; have h4 : _ = _ := h3; (try dsimp only at h2); exfalso; omega) | (intro h1; have h2 : _ = _ := h1; exfalso; omega) | (intros; exfalso; (try dsimp only at *); omega) | (intro h1; exfalso; have h4 := h1.2; (try dsimp only at *); omega) | (intro x h1 h2; exact h2.1))
    replace hw := hw.chg kq_12 (by first | (intro x h1 h2; exact h2) | (intro x h1 h2; have h3 : _ = _ := h2; subst h3; assumption) | (intro x h1 h2; have h3 : _ = _ := h2; exfalso; omega) | (intro b h1 h2 h3; have h4 : _ = _ := h3; (try dsimp only at h2); exfalso; omega) | (intro h1; have h2 : _ = _ := h1; exfalso; omega) | (intros; exfalso; (try dsimp only at *); omega) | (intro h1; exfalso; have h4 := h1.2; (try dsimp only at *); omega) | (intro x h1 h2; exact h2.1))
    replace hb_2 := hb_2.chg kq_12 (by first | (intro x h1 h2; exact h2) | (intro x h1 h2; have h3 : _ = _ := h2; subst h3; assumption) | (intro x h1 h2; have h3 : _ = _ := h2; exfalso; omega) | (intro b h1 h2 h3; have h4 : _ = _ := h3; (try dsimp only at h2); exfalso; omega) | (intro h1; have h2 : _ = _ := h1; exfalso; omega) | (intros; exfalso; (try dsimp only at *); omega) | (intro h1; exfalso; have h4 := h1.2; (try dsimp only at *); omega) | (intro x h1 h2; exact h2.1))
    replace hb1 := hb1.chg kq_12 (by first | (intro x h1 h2; exact h2) | (intro x h1 h2; have h3 : _ = _ := h2; subst h3; assumption) | (intro x h1 h2; have h3 : _ = _ := h2; exfalso; omega) | (intro b h1 h2 h3; have h4 : _ = _ := h3; (try dsimp only at h2); exfalso; omega) | (intro h1; have h2 : _ = _ := h1; exfalso; omega) | (intros; exfalso; (try dsimp only at *); omega) | (intro h1; exfalso; have h4 := h1.2; (try dsimp only at *); omega) | (intro x h1 h2; exact h2.1))
    refine WL.loadB Try.isAgg23 hb1 rfl rfl rfl (?_)
    refine WL.nil ?_
    exact WX.one ⟨rfl, by first | exact Chg.refl _ _ | assumption⟩
  refine DQT.done (fun hd_4 => ?_)
  refine ⟨?_, trivial, trivial, ?_, trivial, trivial⟩
  refine DT.step [(10, _)] rfl ⟨rfl, trivial⟩ rfl (fun wq_13 kq_13 => ?_)
  have zs_kq_13 := kq_13.size
  replace h := h.pure kq_13
  replace hw := hw.pure kq_13
  replace hb_2 := hb_2.pure kq_13
  replace hb1 := hb1.pure kq_13
  replace hd_4 := hd_4.pure kq_13
  refine WL.makeB (e := ept) zp 0 (de.length + 2) Try.underlying23 info_27 rfl rfl rfl ⟨rfl, rfl, Nat.zero_le _⟩ (by constructor <;> omega) rfl ?_
  intro g11 w11 hm k11 z11 e11
  have hm11 : w.heap.size ≤ g11 ∧ g11 ≠ g_1 ∧ g11 ≠ g_2 := by omega
  have lm11 := hm.lt
  have zs_k11 := k11.size
  replace h := h.pure k11
  replace hw := hw.pure k11
  replace hb_2 := hb_2.pure k11
  replace hb1 := hb1.pure k11
  replace hd_4 := hd_4.pure k11
  refine WL.nil (WX.one ⟨hd_4, ?_⟩)
  refine ⟨?_, trivial, ?_, trivial, trivial⟩
  refine DT.step [(11, _), (13, _)] rfl ⟨rfl, rfl, trivial⟩ rfl (fun wq_14 kq_14 => ?_)
  have zs_kq_14 := kq_14.size
  replace h := h.pure kq_14
  replace hw := hw.pure kq_14
  replace hb_2 := hb_2.pure kq_14
  replace hb1 := hb1.pure kq_14
  replace hd_4 := hd_4.pure kq_14
  replace hm := hm.pure kq_14
  refine WL.appendB (e := ept) (ys := de) info_27 Try.underlying23 rfl rfl hm (by rw [List.length_replicate]) (h.dead.src Try.underlying23) (by omega) rfl ?_
  intro w9 hQ gk n9
  rw [app2] at hQ
  rw [Nat.zero_add de.length]
  have zs_gk := gk.size
  replace h := h.chg gk (by first | (intro x h1 h2; exact h2) | (intro x h1 h2; have h3 : _ = _ := h2; subst h3; assumption) | (intro x h1 h2; have h3 : _ = _ := h2; exfalso; omega) | (intro b h1 h2 h3; have h4 : _ = _ := h3; (try dsimp only at h2); exfalso; omega) | (intro h1; have h2 : _ = _ := h1; exfalso; omega) | (intros; exfalso; (try dsimp only at *); omega) | (intro h1; exfalso; have h4 := h1.2; (try dsimp only at *); omega) | (intro x h1 h2; exact h2.1))
  replace hw := hw.chg gk (by first | (intro x h1 h2; exact h2) | (intro x h1 h2; have h3 : _ = _ := h2; subst h3; assumption) | (intro x h1 h2; have h3 : _ = _ := h2; exfalso; omega) | (intro b h1 h2 h3; have h4 : _ = _ := h3; (try dsimp only at h2); exfalso; omega) | (intro h1; have h2 : _ = _ := h1; exfalso; omega) | (intros; exfalso; (try dsimp only at *); omega) | (intro h1; exfalso; have h4 := h1.2; (try dsimp only at *); omega) | (intro x h1 h2; exact h2.1))
  replace hb_2 := hb_2.chg gk (by first | (intro x h1 h2; exact h2) | (intro x h1 h2; have h3 : _ = _ := h2; subst h3; assumption) | (intro x h1 h2; have h3 : _ = _ := h2; exfalso; omega) | (intro b h1 h2 h3; have h4 : _ = _ := h3; (try dsimp only at h2); exfalso; omega) | (intro h1; have h2 : _ = _ := h1; exfalso; omega) | (intros; exfalso; (try dsimp only at *); omega) | (intro h1; exfalso; have h4 := h1.2; (try dsimp only at *); omega) | (intro x h1 h2; exact h2.1))
  replace hb1 := hb1.chg gk (by first | (intro x h1 h2; exact h2) | (intro x h1 h2; have h3 : _ = _ := h2; subst h3; assumption) | (intro x h1 h2; have h3 : _ = _ := h2; exfalso; omega) | (intro b h1 h2 h3; have h4 : _ = _ := h3; (try dsimp only at h2); exfalso; omega) | (intro h1; have h2 : _ = _ := h1; exfalso; omega) | (intros; exfalso; (try dsimp only at *); omega) | (intro h1; exfalso; have h4 := h1.2; (try dsimp only at *); omega) | (intro x h1 h2; exact h2.1))
  replace hd_4 := hd_4.chg gk (by first | (intro x h1 h2; exact h2) | (intro x h1 h2; have h3 : _ = _ := h2; subst h3; assumption) | (intro x h1 h2; have h3 : _ = _ := h2; exfalso; omega) | (intro b h1 h2 h3; have h4 : _ = _ := h3; (try dsimp only at h2); exfalso; omega) | (intro h1; have h2 : _ = _ := h1; exfalso; omega) | (intros; exfalso; (try dsimp only at *); omega) | (intro h1; exfalso; have h4 := h1.2; (try dsimp only at *); omega) | (intro x h1 h2; exact h2.1))
  refine WL.nil (WX.one ⟨hd_4, ?_⟩)
  refine ⟨?_, ?_, trivial, trivial⟩
  refine DT.step [(6, _), (14, _)] rfl ⟨rfl, rfl, trivial⟩ rfl (fun wq_15 kq_15 => ?_)
  have zs_kq_15 := kq_15.size
  replace h := h.pure kq_15
  replace hw := hw.pure kq_15
  replace hb_2 := hb_2.pure kq_15
  replace hb1 := hb1.pure kq_15
  replace hd_4 := hd_4.pure kq_15
  replace hQ := hQ.pure kq_15
  refine WL.bld rfl (bld_33_0_2 _ _ _ _) rfl (?_)
  refine WL.nil (WX.one ⟨hd_4, ?_⟩)
  refine ⟨?_, trivial, trivial⟩
  refine DT.step [] rfl trivial rfl (fun wq_16 kq_16 => ?_)
  have zs_kq_16 := kq_16.size
  replace h := h.pure kq_16
  replace hw := hw.pure kq_16
  replace hb_2 := hb_2.pure kq_16
  replace hb1 := hb1.pure kq_16
  replace hd_4 := hd_4.pure kq_16
  replace hQ := hQ.pure kq_16
  refine WL.alloc Try.zeroValue33 rfl ?_
  intro g3 w3 hge3 hlt3 hb3 k3
  have zs_k3 := k3.size
  replace h := h.pure k3
  replace hw := hw.pure k3
  replace hb_2 := hb_2.pure k3
  replace hb1 := hb1.pure k3
  replace hd_4 := hd_4.pure k3
  replace hQ := hQ.pure k3
  have hM3 : w.heap.size ≤ g3 ∧ g3 ≠ g_1 ∧ g3 ≠ g_2 := by omega
  refine WL.nil (WX.one ⟨hd_4, ?_⟩)
  refine ⟨?_, trivial⟩
  refine DT.step [(3, _), (15, _)] rfl ⟨rfl, rfl, trivial⟩ rfl (fun wq_17 kq_17 => ?_)
  have zs_kq_17 := kq_17.size
  replace h := h.pure kq_17
  replace hw := hw.pure kq_17
  replace hb_2 := hb_2.pure kq_17
  replace hb1 := hb1.pure kq_17
  replace hd_4 := hd_4.pure kq_17
  replace hQ := hQ.pure kq_17
  replace hb3 := hb3.pure kq_17
  refine WL.stores Try.sizeOf33 hb3 rfl rfl (by first | (simp; done) | (simp; omega) | rfl) (by first | exact Enc.one _ _ | (intro u hu; obtain ⟨x, _, rfl⟩ := List.mem_map.1 hu; rfl) | (simp [Value.oneCell']; done) | (simp [Value.oneCell', Value.cells]; done)) (by first | (simp; done) | (simp; omega) | (simp [Value.cells]; done) | (simp [Value.cells]; omega) | exact Nat.le_of_ble_eq_true rfl) rfl ?_
  intro w_18 hs_18 hn_18 k_18
  have zs_k_18 := k_18.size
  replace h := h.chg k_18 (by first | (intro x h1 h2; exact h2) | (intro x h1 h2; have h3 : _ = _ := h2; subst h3; assumption) | (intro x h1 h2; have h3 : _ = _ := h2; exfalso; omega) | (intro b h1 h2 h3; have h4 : _ = _ := h3; (try dsimp only at h2); exfalso; omega) | (intro h1; have h2 : _ = _ := h1; exfalso; omega) | (intros; exfalso; (try dsimp only at *); omega) | (intro h1; exfalso; have h4 := h1.2; (try dsimp only at *); omega) | (intro x h1 h2; exact h2.1))
  replace hw := hw.chg k_18 (by first | (intro x h1 h2; exact h2) | (intro x h1 h2; have h3 : _ = _ := h2; subst h3; assumption) | (intro x h1 h2; have h3 : _ = _ := h2; exfalso; omega) | (intro b h1 h2 h3; have h4 : _ = _ := h3; (try dsimp only at h2); exfalso; omega) | (intro h1; have h2 : _ = _ := h1; exfalso; omega) | (intros; exfalso; (try dsimp only at *); omega) | (intro h1; exfalso; have h4 := h1.2; (try dsimp only at *); omega) | (intro x h1 h2; exact h2.1))
  replace hb_2 := hb_2.chg k_18 (by first | (intro x h1 h2; exact h2) | (intro x h1 h2; have h3 : _ = _ := h2; subst h3; assumption) | (intro x h1 h2; have h3 : _ = _ := h2; exfalso; omega) | (intro b h1 h2 h3; have h4 : _ = _ := h3; (try dsimp only at h2); exfalso; omega) | (intro h1; have h2 : _ = _ := h1; exfalso; omega) | (intros; exfalso; (try dsimp only at *); omega) | (intro h1; exfalso; have h4 := h1.2; (try dsimp only at *); omega) | (intro x h1 h2; exact h2.1))
  replace hb1 := hb1.chg k_18 (by first | (intro x h1 h2; exact h2) | (intro x h1 h2; have h3 : _ = _ := h2; subst h3; assumption) | (intro x h1 h2; have h3 : _ = _ := h2; exfalso; omega) | (intro b h1 h2 h3; have h4 : _ = _ := h3; (try dsimp only at h2); exfalso; omega) | (intro h1; have h2 : _ = _ := h1; exfalso; omega) | (intros; exfalso; (try dsimp only at *); omega) | (intro h1; exfalso; have h4 := h1.2; (try dsimp only at *); omega) | (intro x h1 h2; exact h2.1))
  replace hd_4 := hd_4.chg k_18 (by first | (intro x h1 h2; exact h2) | (intro x h1 h2; have h3 : _ = _ := h2; subst h3; assumption) | (intro x h1 h2; have h3 : _ = _ := h2; exfalso; omega) | (intro b h1 h2 h3; have h4 : _ = _ := h3; (try dsimp only at h2); exfalso; omega) | (intro h1; have h2 : _ = _ := h1; exfalso; omega) | (intros; exfalso; (try dsimp only at *); omega) | (intro h1; exfalso; have h4 := h1.2; (try dsimp only at *); omega) | (intro x h1 h2; exact h2.1))
  replace hQ := hQ.chg k_18 (by first | (intro x h1 h2; exact h2) | (intro x h1 h2; have h3 : _ = _ := h2; subst h3; assumption) | (intro x h1 h2; have h3 : _ = _ := h2; exfalso; omega) | (intro b h1 h2 h3; have h4 : _ = _ := h3; (try dsimp only at h2); exfalso; omega) | (intro h1; have h2 : _ = _ := h1; exfalso; omega) | (intros; exfalso; (try dsimp only at *); omega) | (intro h1; exfalso; have h4 := h1.2; (try dsimp only at *); omega) | (intro x h1 h2; exact h2.1))
  replace hb3 := hn_18
  refine WL.nil (WX.one0 (v := undef) ⟨hd_4, ?_⟩)
  refine DT.done (fun we_19 ke_19 => ?_) _
  have zs_ke_19 := ke_19.size
  replace h := h.pure ke_19
  replace hw := hw.pure ke_19
  replace hb_2 := hb_2.pure ke_19
  replace hb1 := hb1.pure ke_19
  replace hd_4 := hd_4.pure ke_19
  replace hQ := hQ.pure ke_19
  replace hb3 := hb3.pure ke_19
  rotate_left
  refine DT.step [] rfl trivial rfl (fun wq_15 kq_15 => ?_)
  have zs_kq_15 := kq_15.size
  replace h := h.pure kq_15
  replace hw := hw.pure kq_15
  replace hb_2 := hb_2.pure kq_15
  replace hb1 := hb1.pure kq_15
  replace hd_4 := hd_4.pure kq_15
  replace hQ := hQ.pure kq_15
  refine WL.alloc Try.zeroValue33 rfl ?_
  intro g3 w3 hge3 hlt3 hb3 k3
  have zs_k3 := k3.size
  replace h := h.pure k3
  replace hw := hw.pure k3
  replace hb_2 := hb_2.pure k3
  replace hb1 := hb1.pure k3
  replace hd_4 := hd_4.pure k3
  replace hQ := hQ.pure k3
  have hM3 : w.heap.size ≤ g3 ∧ g3 ≠ g_1 ∧ g3 ≠ g_2 := by omega
  refine WL.nil (WX.one ⟨hd_4, ?_⟩)
  refine ⟨?_, trivial, trivial⟩
  refine DT.step [(6, _), (14, _)] rfl ⟨rfl, rfl, trivial⟩ rfl (fun wq_16 kq_16 => ?_)
  have zs_kq_16 := kq_16.size
  replace h := h.pure kq_16
  replace hw := hw.pure kq_16
  replace hb_2 := hb_2.pure kq_16
  replace hb1 := hb1.pure kq_16
  replace hd_4 := hd_4.pure kq_16
  replace hQ := hQ.pure kq_16
  replace hb3 := hb3.pure kq_16
  refine WL.bld rfl (bld_33_0_2 _ _ _ _) rfl (?_)
  refine WL.nil (WX.one ⟨hd_4, ?_⟩)
  refine ⟨?_, trivial⟩
  refine DT.step [(3, _), (15, _)] rfl ⟨rfl, rfl, trivial⟩ rfl (fun wq_17 kq_17 => ?_)
  have zs_kq_17 := kq_17.size
  replace h := h.pure kq_17
  replace hw := hw.pure kq_17
  replace hb_2 := hb_2.pure kq_17
  replace hb1 := hb1.pure kq_17
  replace hd_4 := hd_4.pure kq_17
  replace hQ := hQ.pure kq_17
  replace hb3 := hb3.pure kq_17
  refine WL.stores Try.sizeOf33 hb3 rfl rfl (by first | (simp; done) | (simp; omega) | rfl) (by first | exact Enc.one _ _ | (intro u hu; obtain ⟨x, _, rfl⟩ := List.mem_map.1 hu; rfl) | (simp [Value.oneCell']; done) | (simp [Value.oneCell', Value.cells]; done)) (by first | (simp; done) | (simp; omega) | (simp [Value.cells]; done) | (simp [Value.cells]; omega) | exact Nat.le_of_ble_eq_true rfl) rfl ?_
  intro w_18 hs_18 hn_18 k_18
  have zs_k_18 := k_18.size
  replace h := h.chg k_18 (by first | (intro x h1 h2; exact h2) | (intro x h1 h2; have h3 : _ = _ := h2; subst h3; assumption) | (intro x h1 h2; have h3 : _ = _ := h2; exfalso; omega) | (intro b h1 h2 h3; have h4 : _ = _ := h3; (try dsimp only at h2); exfalso; omega) | (intro h1; have h2 : _ = _ := h1; exfalso; omega) | (intros; exfalso; (try dsimp only at *); omega) | (intro h1; exfalso; have h4 := h1.2; (try dsimp only at *); omega) | (intro x h1 h2; exact h2.1))
  replace hw := hw.chg k_18 (by first | (intro x h1 h2; exact h2) | (intro x h1 h2; have h3 : _ = _ := h2; subst h3; assumption) | (intro x h1 h2; have h3 : _ = _ := h2; exfalso; omega) | (intro b h1 h2 h3; have h4 : _ = _ := h3; (try dsimp only at h2); exfalso; omega) | (intro h1; have h2 : _ = _ := h1; exfalso; omega) | (intros; exfalso; (try dsimp only at *); omega) | (intro h1; exfalso; have h4 := h1.2; (try dsimp only at *); omega) | (intro x h1 h2; exact h2.1))
  replace hb_2 := hb_2.chg k_18 (by first | (intro x h1 h2; exact h2) | (intro x h1 h2; have h3 : _ = _ := h2; subst h3; assumption) | (intro x h1 h2; have h3 : _ = _ := h2; exfalso; omega) | (intro b h1 h2 h3; have h4 : _ = _ := h3; (try dsimp only at h2); exfalso; omega) | (intro h1; have h2 : _ = _ := h1; exfalso; omega) | (intros; exfalso; (try dsimp only at *); omega) | (intro h1; exfalso; have h4 := h1.2; (try dsimp only at *); omega) | (intro x h1 h2; exact h2.1))
  replace hb1 := hb1.chg k_18 (by first | (intro x h1 h2; exact h2) | (intro x h1 h2; have h3 : _ = _ := h2; subst h3; assumption) | (intro x h1 h2; have h3 : _ = _ := h2; exfalso; omega) | (intro b h1 h2 h3; have h4 : _ = _ := h3; (try dsimp only at h2); exfalso; omega) | (intro h1; have h2 : _ = _ := h1; exfalso; omega) | (intros; exfalso; (try dsimp only at *); omega) | (intro h1; exfalso; have h4 := h1.2; (try dsimp only at *); omega) | (intro x h1 h2; exact h2.1))
  replace hd_4 := hd_4.chg k_18 (by first | (intro x h1 h2; exact h2) | (intro x h1 h2; have h3 : _ = _ := h2; subst h3; assumption) | (intro x h1 h2; have h3 : _ = _ := h2; exfalso; omega) | (intro b h1 h2 h3; have h4 : _ = _ := h3; (try dsimp only at h2); exfalso; omega) | (intro h1; have h2 : _ = _ := h1; exfalso; omega) | (intros; exfalso; (try dsimp only at *); omega) | (intro h1; exfalso; have h4 := h1.2; (try dsimp only at *); omega) | (intro x h1 h2; exact h2.1))
  replace hQ := hQ.chg k_18 (by first | (intro x h1 h2; exact h2) | (intro x h1 h2; have h3 : _ = _ := h2; subst h3; assumption) | (intro x h1 h2; have h3 : _ = _ := h2; exfalso; omega) | (intro b h1 h2 h3; have h4 : _ = _ := h3; (try dsimp only at h2); exfalso; omega) | (intro h1; have h2 : _ = _ := h1; exfalso; omega) | (intros; exfalso; (try dsimp only at *); omega) | (intro h1; exfalso; have h4 := h1.2; (try dsimp only at *); omega) | (intro x h1 h2; exact h2.1))
  replace hb3 := hn_18
  refine WL.nil (WX.one0 (v := undef) ⟨hd_4, ?_⟩)
  refine DT.done (fun we_19 ke_19 => ?_) _
  have zs_ke_19 := ke_19.size
  replace h := h.pure ke_19
  replace hw := hw.pure ke_19
  replace hb_2 := hb_2.pure ke_19
  replace hb1 := hb1.pure ke_19
  replace hd_4 := hd_4.pure ke_19
  replace hQ := hQ.pure ke_19
  replace hb3 := hb3.pure ke_19
  rotate_left
  refine DT.step [] rfl trivial rfl (fun wq_14 kq_14 => ?_)
  have zs_kq_14 := kq_14.size
  replace h := h.pure kq_14
  replace hw := hw.pure kq_14
  replace hb_2 := hb_2.pure kq_14
  replace hb1 := hb1.pure kq_14
  replace hd_4 := hd_4.pure kq_14
  replace hm := hm.pure kq_14
  refine WL.alloc Try.zeroValue33 rfl ?_
  intro g3 w3 hge3 hlt3 hb3 k3
  have zs_k3 := k3.size
  replace h := h.pure k3
  replace hw := hw.pure k3
  replace hb_2 := hb_2.pure k3
  replace hb1 := hb1.pure k3
  replace hd_4 := hd_4.pure k3
  replace hm := hm.pure k3
  have hM3 : w.heap.size ≤ g3 ∧ g3 ≠ g_1 ∧ g3 ≠ g_2 := by omega
  refine WL.nil (WX.one ⟨hd_4, ?_⟩)
  refine ⟨?_, trivial, trivial, trivial⟩
  refine DT.step [(11, _), (13, _)] rfl ⟨rfl, rfl, trivial⟩ rfl (fun wq_15 kq_15 => ?_)
  have zs_kq_15 := kq_15.size
  replace h := h.pure kq_15
  replace hw := hw.pure kq_15
  replace hb_2 := hb_2.pure kq_15
  replace hb1 := hb1.pure kq_15
  replace hd_4 := hd_4.pure kq_15
  replace hm := hm.pure kq_15
  replace hb3 := hb3.pure kq_15
  refine WL.appendB (e := ept) (ys := de) info_27 Try.underlying23 rfl rfl hm (by rw [List.length_replicate]) (h.dead.src Try.underlying23) (by omega) rfl ?_
  intro w9 hQ gk n9
  rw [app2] at hQ
  rw [Nat.zero_add de.length]
  have zs_gk := gk.size
  replace h := h.chg gk (by first | (intro x h1 h2; exact h2) | (intro x h1 h2; have h3 : _ = _ := h2; subst h3; assumption) | (intro x h1 h2; have h3 : _ = _ := h2; exfalso; omega) | (intro b h1 h2 h3; have h4 : _ = _ := h3; (try dsimp only at h2); exfalso; omega) | (intro h1; have h2 : _ = _ := h1; exfalso; omega) | (intros; exfalso; (try dsimp only at *); omega) | (intro h1; exfalso; have h4 := h1.2; (try dsimp only at *); omega) | (intro x h1 h2; exact h2.1))
  replace hw := hw.chg gk (by first | (intro x h1 h2; exact h2) | (intro x h1 h2; have h3 : _ = _ := h2; subst h3; assumption) | (intro x h1 h2; have h3 : _ = _ := h2; exfalso; omega) | (intro b h1 h2 h3; have h4 : _ = _ := h3; (try dsimp only at h2); exfalso; omega) | (intro h1; have h2 : _ = _ := h1; exfalso; omega) | (intros; exfalso; (try dsimp only at *); omega) | (intro h1; exfalso; have h4 := h1.2; (try dsimp only at *); omega) | (intro x h1 h2; exact h2.1))
  replace hb_2 := hb_2.chg gk (by first | (intro x h1 h2; exact h2) | (intro x h1 h2; have h3 : _ = _ := h2; subst h3; assumption) | (intro x h1 h2; have h3 : _ = _ := h2; exfalso; omega) | (intro b h1 h2 h3; have h4 : _ = _ := h3; (try dsimp only at h2); exfalso; omega) | (intro h1; have h2 : _ = _ := h1; exfalso; omega) | (intros; exfalso; (try dsimp only at *); omega) | (intro h1; exfalso; have h4 := h1.2; (try dsimp only at *); omega) | (intro x h1 h2; exact h2.1))
  replace hb1 := hb1.chg gk (by first | (intro x h1 h2; exact h2) | (intro x h1 h2; have h3 : _ = _ := h2; subst h3; assumption) | (intro x h1 h2; have h3 : _ = _ := h2; exfalso; omega) | (intro b h1 h2 h3; have h4 : _ = _ := h3; (try dsimp only at h2); exfalso; omega) | (intro h1; have h2 : _ = _ := h1; exfalso; omega) | (intros; exfalso; (try dsimp only at *); omega) | (intro h1; exfalso; have h4 := h1.2; (try dsimp only at *); omega) | (intro x h1 h2; exact h2.1))
  replace hd_4 := hd_4.chg gk (by first | (intro x h1 h2; exact h2) | (intro x h1 h2; have h3 : _ = _ := h2; subst h3; assumption) | (intro x h1 h2; have h3 : _ = _ := h2; exfalso; omega) | (intro b h1 h2 h3; have h4 : _ = _ := h3; (try dsimp only at h2); exfalso; omega) | (intro h1; have h2 : _ = _ := h1; exfalso; omega) | (intros; exfalso; (try dsimp only at *); omega) | (intro h1; exfalso; have h4 := h1.2; (try dsimp only at *); omega) | (intro x h1 h2; exact h2.1))
  replace hb3 := hb3.chg gk (by first | (intro x h1 h2; exact h2) | (intro x h1 h2; have h3 : _ = _ := h2; subst h3; assumption) | (intro x h1 h2; have h3 : _ = _ := h2; exfalso; omega) | (intro b h1 h2 h3; have h4 : _ = _ := h3; (try dsimp only at h2); exfalso; omega) | (intro h1; have h2 : _ = _ := h1; exfalso; omega) | (intros; exfalso; (try dsimp only at *); omega) | (intro h1; exfalso; have h4 := h1.2; (try dsimp only at *); omega) | (intro x h1 h2; exact h2.1))
  refine WL.nil (WX.one ⟨hd_4, ?_⟩)
  refine ⟨?_, trivial, trivial⟩
  refine DT.step [(6, _), (14, _)] rfl ⟨rfl, rfl, trivial⟩ rfl (fun wq_16 kq_16 => ?_)
  have zs_kq_16 := kq_16.size
  replace h := h.pure kq_16
  replace hw := hw.pure kq_16
  replace hb_2 := hb_2.pure kq_16
  replace hb1 := hb1.pure kq_16
  replace hd_4 := hd_4.pure kq_16
  replace hb3 := hb3.pure kq_16
  replace hQ := hQ.pure kq_16
  refine WL.bld rfl (bld_33_0_2 _ _ _ _) rfl (?_)
  refine WL.nil (WX.one ⟨hd_4, ?_⟩)
  refine ⟨?_, trivial⟩
  refine DT.step [(3, _), (15, _)] rfl ⟨rfl, rfl, trivial⟩ rfl (fun wq_17 kq_17 => ?_)
  have zs_kq_17 := kq_17.size
  replace h := h.pure kq_17
  replace hw := hw.pure kq_17
  replace hb_2 := hb_2.pure kq_17
  replace hb1 := hb1.pure kq_17
  replace hd_4 := hd_4.pure kq_17
  replace hb3 := hb3.pure kq_17
  replace hQ := hQ.pure kq_17
  refine WL.stores Try.sizeOf33 hb3 rfl rfl (by first | (simp; done) | (simp; omega) | rfl) (by first | exact Enc.one _ _ | (intro u hu; obtain ⟨x, _, rfl⟩ := List.mem_map.1 hu; rfl) | (simp [Value.oneCell']; done) | (simp [Value.oneCell', Value.cells]; done)) (by first | (simp; done) | (simp; omega) | (simp [Value.cells]; done) | (simp [Value.cells]; omega) | exact Nat.le_of_ble_eq_true rfl) rfl ?_
  intro w_18 hs_18 hn_18 k_18
  have zs_k_18 := k_18.size
  replace h := h.chg k_18 (by first | (intro x h1 h2; exact h2) | (intro x h1 h2; have h3 : _ = _ := h2; subst h3; assumption) | (intro x h1 h2; have h3 : _ = _ := h2; exfalso; omega) | (intro b h1 h2 h3; have h4 : _ = _ := h3; (try dsimp only at h2); exfalso; omega) | (intro h1; have h2 : _ = _ := h1; exfalso; omega) | (intros; exfalso; (try dsimp only at *); omega) | (intro h1; exfalso; have h4 := h1.2; (try dsimp only at *); omega) | (intro x h1 h2; exact h2.1))
  replace hw := hw.chg k_18 (by first | (intro x h1 h2; exact h2) | (intro x h1 h2; have h3 : _ = _ := h2; subst h3; assumption) | (intro x h1 h2; have h3 : _ = _ := h2; exfalso; omega) | (intro b h1 h2 h3; have h4 : _ = _ := h3; (try dsimp only at h2); exfalso; omega) | (intro h1; have h2 : _ = _ := h1; exfalso; omega) | (intros; exfalso; (try dsimp only at *); omega) | (intro h1; exfalso; have h4 := h1.2; (try dsimp only at *); omega) | (intro x h1 h2; exact h2.1))
  replace hb_2 := hb_2.chg k_18 (by first | (intro x h1 h2; exact h2) | (intro x h1 h2; have h3 : _ = _ := h2; subst h3; assumption) | (intro x h1 h2; have h3 : _ = _ := h2; exfalso; omega) | (intro b h1 h2 h3; have h4 : _ = _ := h3; (try dsimp only at h2); exfalso; omega) | (intro h1; have h2 : _ = _ := h1; exfalso; omega) | (intros; exfalso; (try dsimp only at *); omega) | (intro h1; exfalso; have h4 := h1.2; (try dsimp only at *); omega) | (intro x h1 h2; exact h2.1))
  replace hb1 := hb1.chg k_18 (by first | (intro x h1 h2; exact h2) | (intro x h1 h2; have h3 : _ = _ := h2; subst h3; assumption) | (intro x h1 h2; have h3 : _ = _ := h2; exfalso; omega) | (intro b h1 h2 h3; have h4 : _ = _ := h3; (try dsimp only at h2); exfalso; omega) | (intro h1; have h2 : _ = _ := h1; exfalso; omega) | (intros; exfalso; (try dsimp only at *); omega) | (intro h1; exfalso; have h4 := h1.2; (try dsimp only at *); omega) | (intro x h1 h2; exact h2.1))
  replace hd_4 := hd_4.chg k_18 (by first | (intro x h1 h2; exact h2) | (intro x h1 h2; have h3 : _ = _ := h2; subst h3; assumption) | (intro x h1 h2; have h3 : _ = _ := h2; exfalso; omega) | (intro b h1 h2 h3; have h4 : _ = _ := h3; (try dsimp only at h2); exfalso; omega) | (intro h1; have h2 : _ = _ := h1; exfalso; omega) | (intros; exfalso; (try dsimp only at *); omega) | (intro h1; exfalso; have h4 := h1.2; (try dsimp only at *); omega) | (intro x h1 h2; exact h2.1))
  replace hQ := hQ.chg k_18 (by first | (intro x h1 h2; exact h2) | (intro x h1 h2; have h3 : _ = _ := h2; subst h3; assumption) | (intro x h1 h2; have h3 : _ = _ := h2; exfalso; omega) | (intro b h1 h2 h3; have h4 : _ = _ := h3; (try dsimp only at h2); exfalso; omega) | (intro h1; have h2 : _ = _ := h1; exfalso; omega) | (intros; exfalso; (try dsimp only at *); omega) | (intro h1; exfalso; have h4 := h1.2; (try dsimp only at *); omega) | (intro x h1 h2; exact h2.1))
  replace hb3 := hn_18
  refine WL.nil (WX.one0 (v := undef) ⟨hd_4, ?_⟩)
  refine DT.done (fun we_19 ke_19 => ?_) _
  have zs_ke_19 := ke_19.size
  replace h := h.pure ke_19
  replace hw := hw.pure ke_19
  replace hb_2 := hb_2.pure ke_19
  replace hb1 := hb1.pure ke_19
  replace hd_4 := hd_4.pure ke_19
  replace hb3 := hb3.pure ke_19
  replace hQ := hQ.pure ke_19
  rotate_left
  refine DT.step [] rfl trivial rfl (fun wq_13 kq_13 => ?_)
  have zs_kq_13 := kq_13.size
  replace h := h.pure kq_13
  replace hw := hw.pure kq_13
  replace hb_2 := hb_2.pure kq_13
  replace hb1 := hb1.pure kq_13
  replace hd_4 := hd_4.pure kq_13
  refine WL.alloc Try.zeroValue33 rfl ?_
  intro g3 w3 hge3 hlt3 hb3 k3
  have zs_k3 := k3.size
  replace h := h.pure k3
  replace hw := hw.pure k3
  replace hb_2 := hb_2.pure k3
  replace hb1 := hb1.pure k3
  replace hd_4 := hd_4.pure k3
  have hM3 : w.heap.size ≤ g3 ∧ g3 ≠ g_1 ∧ g3 ≠ g_2 := by omega
  refine WL.nil (WX.one ⟨hd_4, ?_⟩)
  refine ⟨?_, trivial, trivial, trivial, trivial⟩
  refine DT.step [(10, _)] rfl ⟨rfl, trivial⟩ rfl (fun wq_14 kq_14 => ?_)
  have zs_kq_14 := kq_14.size
  replace h := h.pure kq_14
  replace hw := hw.pure kq_14
  replace hb_2 := hb_2.pure kq_14
  replace hb1 := hb1.pure kq_14
  replace hd_4 := hd_4.pure kq_14
  replace hb3 := hb3.pure kq_14
  refine WL.makeB (e := ept) zp 0 (de.length + 2) Try.underlying23 info_27 rfl rfl rfl ⟨rfl, rfl, Nat.zero_le _⟩ (by constructor <;> omega) rfl ?_
  intro g11 w11 hm k11 z11 e11
  have hm11 : w.heap.size ≤ g11 ∧ g11 ≠ g_1 ∧ g11 ≠ g_2 := by omega
  have lm11 := hm.lt
  have zs_k11 := k11.size
  replace h := h.pure k11
  replace hw := hw.pure k11
  replace hb_2 := hb_2.pure k11
  replace hb1 := hb1.pure k11
  replace hd_4 := hd_4.pure k11
  replace hb3 := hb3.pure k11
  refine WL.nil (WX.one ⟨hd_4, ?_⟩)
  refine ⟨?_, trivial, trivial, trivial⟩
  refine DT.step [(11, _), (13, _)] rfl ⟨rfl, rfl, trivial⟩ rfl (fun wq_15 kq_15 => ?_)
  have zs_kq_15 := kq_15.size
  replace h := h.pure kq_15
  replace hw := hw.pure kq_15
  replace hb_2 := hb_2.pure kq_15
  replace hb1 := hb1.pure kq_15
  replace hd_4 := hd_4.pure kq_15
  replace hb3 := hb3.pure kq_15
  replace hm := hm.pure kq_15
  refine WL.appendB (e := ept) (ys := de) info_27 Try.underlying23 rfl rfl hm (by rw [List.length_replicate]) (h.dead.src Try.underlying23) (by omega) rfl ?_
  intro w9 hQ gk n9
  rw [app2] at hQ
  rw [Nat.zero_add de.length]
  have zs_gk := gk.size
  replace h := h.chg gk (by first | (intro x h1 h2; exact h2) | (intro x h1 h2; have h3 : _ = _ := h2; subst h3; assumption) | (intro x h1 h2; have h3 : _ = _ := h2; exfalso; omega) | (intro b h1 h2 h3; have h4 : _ = _ := h3; (try dsimp only at h2); exfalso; omega) | (intro h1; have h2 : _ = _ := h1; exfalso; omega) | (intros; exfalso; (try dsimp only at *); omega) | (intro h1; exfalso; have h4 := h1.2; (try dsimp only at *); omega) | (intro x h1 h2; exact h2.1))
  replace hw := hw.chg gk (by first | (intro x h1 h2; exact h2) | (intro x h1 h2; have h3 : _ = _ := h2; subst h3; assumption) | (intro x h1 h2; have h3 : _ = _ := h2; exfalso; omega) | (intro b h1 h2 h3; have h4 : _ = _ := h3; (try dsimp only at h2); exfalso; omega) | (intro h1; have h2 : _ = _ := h1; exfalso; omega) | (intros; exfalso; (try dsimp only at *); omega) | (intro h1; exfalso; have h4 := h1.2; (try dsimp only at *); omega) | (intro x h1 h2; exact h2.1))
  replace hb_2 := hb_2.chg gk (by first | (intro x h1 h2; exact h2) | (intro x h1 h2; have h3 : _ = _ := h2; subst h3; assumption) | (intro x h1 h2; have h3 : _ = _ := h2; exfalso; omega) | (intro b h1 h2 h3; have h4 : _ = _ := h3; (try dsimp only at h2); exfalso; omega) | (intro h1; have h2 : _ = _ := h1; exfalso; omega) | (intros; exfalso; (try dsimp only at *); omega) | (intro h1; exfalso; have h4 := h1.2; (try dsimp only at *); omega) | (intro x h1 h2; exact h2.1))
  replace hb1 := hb1.chg gk (by first | (intro x h1 h2; exact h2) | (intro x h1 h2; have h3 : _ = _ := h2; subst h3; assumption) | (intro x h1 h2; have h3 : _ = _ := h2; exfalso; omega) | (intro b h1 h2 h3; have h4 : _ = _ := h3; (try dsimp only at h2); exfalso; omega) | (intro h1; have h2 : _ = _ := h1; exfalso; omega) | (intros; exfalso; (try dsimp only at *); omega) | (intro h1; exfalso; have h4 := h1.2; (try dsimp only at *); omega) | (intro x h1 h2; exact h2.1))
  replace hd_4 := hd_4.chg gk (by first | (intro x h1 h2; exact h2) | (intro x h1 h2; have h3 : _ = _ := h2; subst h3; assumption) | (intro x h1 h2; have h3 : _ = _ := h2; exfalso; omega) | (intro b h1 h2 h3; have h4 : _ = _ := h3; (try dsimp only at h2); exfalso; omega) | (intro h1; have h2 : _ = _ := h1; exfalso; omega) | (intros; exfalso; (try dsimp only at *); omega) | (intro h1; exfalso; have h4 := h1.2; (try dsimp only at *); omega) | (intro x h1 h2; exact h2.1))
  replace hb3 := hb3.chg gk (by first | (intro x h1 h2; exact h2) | (intro x h1 h2; have h3 : _ = _ := h2; subst h3; assumption) | (intro x h1 h2; have h3 : _ = _ := h2; exfalso; omega) | (intro b h1 h2 h3; have h4 : _ = _ := h3; (try dsimp only at h2); exfalso; omega) | (intro h1; have h2 : _ = _ := h1; exfalso; omega) | (intros; exfalso; (try dsimp only at *); omega) | (intro h1; exfalso; have h4 := h1.2; (try dsimp only at *); omega) | (intro x h1 h2; exact h2.1))
  refine WL.nil (WX.one ⟨hd_4, ?_⟩)
  refine ⟨?_, trivial, trivial⟩
  refine DT.step [(6, _), (14, _)] rfl ⟨rfl, rfl, trivial⟩ rfl (fun wq_16 kq_16 => ?_)
  have zs_kq_16 := kq_16.size
  replace h := h.pure kq_16
  replace hw := hw.pure kq_16
  replace hb_2 := hb_2.pure kq_16
  replace hb1 := hb1.pure kq_16
  replace hd_4 := hd_4.pure kq_16
  replace hb3 := hb3.pure kq_16
  replace hQ := hQ.pure kq_16
  refine WL.bld rfl (bld_33_0_2 _ _ _ _) rfl (?_)
  refine WL.nil (WX.one ⟨hd_4, ?_⟩)
  refine ⟨?_, trivial⟩
  refine DT.step [(3, _), (15, _)] rfl ⟨rfl, rfl, trivial⟩ rfl (fun wq_17 kq_17 => ?_)
  have zs_kq_17 := kq_17.size
  replace h := h.pure kq_17
  replace hw := hw.pure kq_17
  replace hb_2 := hb_2.pure kq_17
  replace hb1 := hb1.pure kq_17
  replace hd_4 := hd_4.pure kq_17
  replace hb3 := hb3.pure kq_17
  replace hQ := hQ.pure kq_17
  refine WL.stores Try.sizeOf33 hb3 rfl rfl (by first | (simp; done) | (simp; omega) | rfl) (by first | exact Enc.one _ _ | (intro u hu; obtain ⟨x, _, rfl⟩ := List.mem_map.1 hu; rfl) | (simp [Value.oneCell']; done) | (simp [Value.oneCell', Value.cells]; done)) (by first | (simp; done) | (simp; omega) | (simp [Value.cells]; done) | (simp [Value.cells]; omega) | exact Nat.le_of_ble_eq_true rfl) rfl ?_
  intro w_18 hs_18 hn_18 k_18
  have zs_k_18 := k_18.size
  replace h := h.chg k_18 (by first | (intro x h1 h2; exact h2) | (intro x h1 h2; have h3 : _ = _ := h2; subst h3; assumption) | (intro x h1 h2; have h3 : _ = _ := h2; exfalso; omega) | (intro b h1 h2 h3; have h4 : _ = _ := h3; (try dsimp only at h2); exfalso; omega) | (intro h1; have h2 : _ = _ := h1; exfalso; omega) | (intros; exfalso; (try dsimp only at *); omega) | (intro h1; exfalso; have h4 := h1.2; (try dsimp only at *); omega) | (intro x h1 h2; exact h2.1))
  replace hw := hw.chg k_18 (by first | (intro x h1 h2; exact h2) | (intro x h1 h2; have h3 : _ = _ := h2; subst h3; assumption) | (intro x h1 h2; have h3 : _ = _ := h2; exfalso; omega) | (intro b h1 h2 h3; have h4 : _ = _ := h3; (try dsimp only at h2); exfalso; omega) | (intro h1; have h2 : _ = _ := h1; exfalso; omega) | (intros; exfalso; (try dsimp only at *); omega) | (intro h1; exfalso; have h4 := h1.2; (try dsimp only at *); omega) | (intro x h1 h2; exact h2.1))
  replace hb_2 := hb_2.chg k_18 (by first | (intro x h1 h2; exact h2) | (intro x h1 h2; have h3 : _ = _ := h2; subst h3; assumption) | (intro x h1 h2; have h3 : _ = _ := h2; exfalso; omega) | (intro b h1 h2 h3; have h4 : _ = _ := h3; (try dsimp only at h2); exfalso; omega) | (intro h1; have h2 : _ = _ := h1; exfalso; omega) | (intros; exfalso; (try dsimp only at *); omega) | (intro h1; exfalso; have h4 := h1.2; (try dsimp only at *); omega) | (intro x h1 h2; exact h2.1))
  replace hb1 := hb1.chg k_18 (by first | (intro x h1 h2; exact h2) | (intro x h1 h2; have h3 : _ = _ := h2; subst h3; assumption) | (intro x h1 h2; have h3 : _ = _ := h2; exfalso; omega) | (intro b h1 h2 h3; have h4 : _ = _ := h3; (try dsimp only at h2); exfalso; omega) | (intro h1; have h2 : _ = _ := h1; exfalso; omega) | (intros; exfalso; (try dsimp only at *); omega) | (intro h1; exfalso; have h4 := h1.2; (try dsimp only at *); omega) | (intro x h1 h2; exact h2.1))
  replace hd_4 := hd_4.chg k_18 (by first | (intro x h1 h2; exact h2) | (intro x h1 h2; have h3 : _ = _ := h2; subst h3; assumption) | (intro x h1 h2; have h3 : _ = _ := h2; exfalso; omega) | (intro b h1 h2 h3; have h4 : _ = _ := h3; (try dsimp only at h2); exfalso; omega) | (intro h1; have h2 : _ = _ := h1; exfalso; omega) | (intros; exfalso; (try dsimp only at *); omega) | (intro h1; exfalso; have h4 := h1.2; (try dsimp only at *); omega) | (intro x h1 h2; exact h2.1))
  replace hQ := hQ.chg k_18 (by first | (intro x h1 h2; exact h2) | (intro x h1 h2; have h3 : _ = _ := h2; subst h3; assumption) | (intro x h1 h2; have h3 : _ = _ := h2; exfalso; omega) | (intro b h1 h2 h3; have h4 : _ = _ := h3; (try dsimp only at h2); exfalso; omega) | (intro h1; have h2 : _ = _ := h1; exfalso; omega) | (intros; exfalso; (try dsimp only at *); omega) | (intro h1; exfalso; have h4 := h1.2; (try dsimp only at *); omega) | (intro x h1 h2; exact h2.1))
  replace hb3 := hn_18
  refine WL.nil (WX.one0 (v := undef) ⟨hd_4, ?_⟩)
  refine DT.done (fun we_19 ke_19 => ?_) _
  have zs_ke_19 := ke_19.size
  replace h := h.pure ke_19
  replace hw := hw.pure ke_19
  replace hb_2 := hb_2.pure ke_19
  replace hb1 := hb1.pure ke_19
  replace hd_4 := hd_4.pure ke_19
  replace hb3 := hb3.pure ke_19
  replace hQ := hQ.pure ke_19
  rotate_left
  all_goals
    refine WX.then_normal (WC.seq (WC.seq (WC.region (WL.assign rfl rfl (WL.nil (WX.then_normal (WC.block (?_))))))))
    have hbd : Blk _ g3 33 [vi ba, .slice none 0 0, .slice (some ⟨g11, 0, none⟩) de.length (de.length + 2)] := hb3
    have hg3 : g11 ≠ g3 := by omega
    have hO : LF (fun b => (w.heap.size ≤ b ∧ b ≠ g_1 ∧ b ≠ g_2) ∧ b ≠ g3) _ ⟨ba, none, 0, [], some ⟨g11, 0, none⟩, de.length + 2, de⟩ := ⟨Row.nil _ _ _ _, ⟨⟨g11, rfl, ⟨hm11, hg3⟩, hQ⟩, rfl⟩, fun x hx => by cases hx⟩
    refine WC.loop (σ := Nat × (Option Addr × Nat × List SnV)) (fun q => [(1, gptr g_1), (2, gptr g_2), (3, gptr g3), (4, vi (q.1 : Int))]) (fun q w' => q.1 ≤ sn.length ∧ Blk w' g_1 25 [vi ba, .slice sa sn.length sc, .slice da de.length dc] ∧ Blk w' g_2 33 (lcells ⟨0, none, 0, [], none, 0, []⟩) ∧ Blk w' g3 33 [vi ba, .slice q.2.1 q.2.2.2.length q.2.2.1, .slice (some ⟨g11, 0, none⟩) de.length (de.length + 2)] ∧ LS (· < w.heap.size) w' ⟨ba, sa, sc, sn, da, dc, de⟩ ∧ Chg Nob w w' ∧ LF (fun b => (w.heap.size ≤ b ∧ b ≠ g_1 ∧ b ≠ g_2) ∧ b ≠ g3) w' ⟨ba, q.2.1, q.2.2.1, q.2.2.2, some ⟨g11, 0, none⟩, de.length + 2, de⟩ ∧ sabs q.2.2.2 = (sabs sn).take q.1) (fun q => sn.length - q.1) (0, (none, 0, [])) ⟨rfl, rfl, rfl, rfl, trivial⟩ ⟨Nat.zero_le _, hb1, hb_2, hbd, h, hw, hO, rfl⟩ ?_
    clear hb1 hb_2 hbd hb3 h hw hO hQ
    rintro ⟨i, ⟨sa2, sc2, sn2⟩⟩ w1 ⟨hi, hb1, hb2, hb3, h, hw, hO, hsa⟩
    simp only at hi hb3 hO hsa
    dsimp only
    have lg1 := hb1.lt
    have lg2 := hb2.lt
    have lg3 := hb3.lt
    have hl2 : sn2.length = i := by
      have := congrArg List.length hsa
      rw [sabs_len, List.length_take, sabs_len] at this
      omega
    refine WC.seq (WC.seq (WC.region (WL.move rfl rfl (WL.fieldAddr (fld_25_1) rfl rfl (WL.loadB Try.isAgg22 hb1 rfl rfl rfl (WL.len Try.underlying22 rfl rfl (?_)))))))
    refine WL.lss? rfl rfl rfl (fun h20 => ?_) (fun h20 => ?_)
    ·
      refine WL.nil (WX.then_normal (WC.cond_true rfl (WC.skip (WX.then_normal (WC.seq (WC.block (?_)))))))
      have h20' : (i : Int) < (sn.length : Int) := by omega
      obtain ⟨x, hx⟩ : ∃ x, sn[i]? = some x := ⟨_, List.getElem?_eq_getElem (by omega)⟩
      have hxm := List.mem_of_getElem? hx
      have hxd := hs.inner x hxm
      obtain ⟨b1, o1, rfl⟩ := h.snaps.place hx
      refine WC.drawM ((fun x => w.heap.size ≤ x ∧ x ≠ g_1 ∧ x ≠ g_2)) [0, 2, 3, 4, 5, 6, 7, 8, 9, 10, 11, 12, 13, 14, 15, 17, 18, 19, 20, 21, 22, 27] [1, 16, 23, 24, 25, 26, 28] mixed rfl rfl (fun wd_20 kd_20 zd_20 => ?_)
      have zs_kd_20 := kd_20.size
      replace hb1 := hb1.pure kd_20
      replace hb2 := hb2.pure kd_20
      replace hb3 := hb3.pure kd_20
      replace h := h.pure kd_20
      replace hw := hw.pure kd_20
      replace hO := hO.pure kd_20
      apply DQT.step (E' := [(3, _)])
      case ho => rfl
      case hs => exact ⟨rfl, trivial⟩
      case hk => rfl
      case h1 =>
        intro wq_22 kq_22
        refine WL.fieldAddr (fld_33_1) rfl rfl (?_)
        refine WL.nil ?_
        exact WX.one ⟨rfl, by first | exact Chg.refl _ _ | assumption⟩
      apply DQT.step (E' := [(1, _)])
      case ho => rfl
      case hs => exact ⟨rfl, trivial⟩
      case hk => rfl
      case h1 =>
        intro wq_23 kq_23
        refine WL.fieldAddr (fld_25_1) rfl rfl (?_)
        refine WL.nil ?_
        exact WX.one ⟨rfl, by first | exact Chg.refl _ _ | assumption⟩
      apply DQT.step (E' := [(25, _)])
      case ho => rfl
      case hs => exact ⟨rfl, trivial⟩
      case hk => rfl
      case h1 =>
        intro wq_24 kq_24
        have zs_kq_24 := kq_24.size
        replace hb1 := hb1.chg kq_24 (by first | (intro x h1 h2; exact h2) | (intro x h1 h2; have h3 : _ = _ := h2; subst h3; assumption) | (intro x h1 h2; have h3 : _ = _ := h2; exfalso; omega) | (intro b h1 h2 h3; have h4 : _ = _ := h3; (try dsimp only at h2); exfalso; omega) | (intro h1; have h2 : _ = _ := h1; exfalso; omega) | (intros; exfalso; (try dsimp only at *); omega) | (intro h1; exfalso; have h4 := h1.2; (try dsimp only at *); omega) | (intro x h1 h2; exact h2.1))
        replace hb2 := hb2.chg kq_24 (by first | (intro x h1 h2; exact h2) | (intro x h1 h2; have h3 : _ = _ := h2; subst h3; assumption) | (intro x h1 h2; have h3 : _ = _ := h2; exfalso; omega) | (intro b h1 h2 h3; have h4 : _ = _ := h3; (try dsimp only at h2); exfalso; omega) | (intro h1; have h2 : _ = _ := h1; exfalso; omega) | (intros; exfalso; (try dsimp only at *); omega) | (intro h1; exfalso; have h4 := h1.2; (try dsimp only at *); omega) | (intro x h1 h2; exact h2.1))
        replace h := h.chg kq_24 (by first | (intro x h1 h2; exact h2) | (intro x h1 h2; have h3 : _ = _ := h2; subst h3; assumption) | (intro x h1 h2; have h3 : _ = _ := h2; exfalso; omega) | (intro b h1 h2 h3; have h4 : _ = _ := h3; (try dsimp only at h2); exfalso; omega) | (intro h1; have h2 : _ = _ := h1; exfalso; omega) | (intros; exfalso; (try dsimp only at *); omega) | (intro h1; exfalso; have h4 := h1.2; (try dsimp only at *); omega) | (intro x h1 h2; exact h2.1))
        replace hw := hw.chg kq_24 (by first | (intro x h1 h2; exact h2) | (intro x h1 h2; have h3 : _ = _ := h2; subst h3; assumption) | (intro x h1 h2; have h3 : _ = _ := h2; exfalso; omega) | (intro b h1 h2 h3; have h4 : _ = _ := h3; (try dsimp only at h2); exfalso; omega) | (intro h1; have h2 : _ = _ := h1; exfalso; omega) | (intros; exfalso; (try dsimp only at *); omega) | (intro h1; exfalso; have h4 := h1.2; (try dsimp only at *); omega) | (intro x h1 h2; exact h2.1))
        refine WL.loadB Try.isAgg22 hb1 rfl rfl rfl (?_)
        refine WL.nil ?_
        exact WX.one ⟨rfl, by first | exact Chg.refl _ _ | assumption⟩
      apply DQT.step (E' := [(4, _)])
      case ho => rfl
      case hs => exact ⟨rfl, trivial⟩
      case hk => rfl
      case h1 =>
        intro wq_25 kq_25
        refine WL.move rfl rfl (?_)
        refine WL.nil ?_
        exact WX.one ⟨rfl, by first | exact Chg.refl _ _ | assumption⟩
      apply DQT.step (E' := [(26, _), (27, _)])
      case ho => rfl
      case hs => exact ⟨rfl, rfl, trivial⟩
      case hk => rfl
      case h1 =>
        intro wq_26 kq_26
        have zs_kq_26 := kq_26.size
        replace hb1 := hb1.chg kq_26 (by first | (intro x h1 h2; exact h2) | (intro x h1 h2; have h3 : _ = _ := h2; subst h3; assumption) | (intro x h1 h2; have h3 : _ = _ := h2; exfalso; omega) | (intro b h1 h2 h3; have h4 : _ = _ := h3; (try dsimp only at h2); exfalso; omega) | (intro h1; have h2 : _ = _ := h1; exfalso; omega) | (intros; exfalso; (try dsimp only at *); omega) | (intro h1; exfalso; have h4 := h1.2; (try dsimp only at *); omega) | (intro x h1 h2; exact h2.1))
        replace hb2 := hb2.chg kq_26 (by first | (intro x h1 h2; exact h2) | (intro x h1 h2; have h3 : _ = _ := h2; subst h3; assumption) | (intro x h1 h2; have h3 : _ = _ := h2; exfalso; omega) | (intro b h1 h2 h3; have h4 : _ = _ := h3; (try dsimp only at h2); exfalso; omega) | (intro h1; have h2 : _ = _ := h1; exfalso; omega) | (intros; exfalso; (try dsimp only at *); omega) | (intro h1; exfalso; have h4 := h1.2; (try dsimp only at *); omega) | (intro x h1 h2; exact h2.1))
        replace h := h.chg kq_26 (by first | (intro x h1 h2; exact h2) | (intro x h1 h2; have h3 : _ = _ := h2; subst h3; assumption) | (intro x h1 h2; have h3 : _ = _ := h2; exfalso; omega) | (intro b h1 h2 h3; have h4 : _ = _ := h3; (try dsimp only at h2); exfalso; omega) | (intro h1; have h2 : _ = _ := h1; exfalso; omega) | (intros; exfalso; (try dsimp only at *); omega) | (intro h1; exfalso; have h4 := h1.2; (try dsimp only at *); omega) | (intro x h1 h2; exact h2.1))
        replace hw := hw.chg kq_26 (by first | (intro x h1 h2; exact h2) | (intro x h1 h2; have h3 : _ = _ := h2; subst h3; assumption) | (intro x h1 h2; have h3 : _ = _ := h2; exfalso; omega) | (intro b h1 h2 h3; have h4 : _ = _ := h3; (try dsimp only at h2); exfalso; omega) | (intro h1; have h2 : _ = _ := h1; exfalso; omega) | (intros; exfalso; (try dsimp only at *); omega) | (intro h1; exfalso; have h4 := h1.2; (try dsimp only at *); omega) | (intro x h1 h2; exact h2.1))
        refine WL.indexC (e := esn) h.snaps Try.underlying22 Try.sizeOf72 rfl rfl ⟨hx, rfl⟩ rfl ?_
        refine WL.nil ?_
        exact WX.one ⟨rfl, by first | exact Chg.refl _ _ | assumption⟩
      apply DQT.step (E' := [(28, _)])
      case ho => rfl
      case hs => exact ⟨rfl, trivial⟩
      case hk => rfl
      case h1 =>
        intro wq_27 kq_27
        refine WL.fieldAddr (fld_72_0) rfl rfl (?_)
        refine WL.nil ?_
        exact WX.one ⟨rfl, by first | exact Chg.refl _ _ | assumption⟩
      apply DQT.step (E' := [(29, _)])
      case ho => rfl
      case hs => exact ⟨rfl, trivial⟩
      case hk => rfl
      case h1 =>
        intro wq_28 kq_28
        have zs_kq_28 := kq_28.size
        replace hb1 := hb1.chg kq_28 (by first | (intro x h1 h2; exact h2) | (intro x h1 h2; have h3 : _ = _ := h2; subst h3; assumption) | (intro x h1 h2; have h3 : _ = _ := h2; exfalso; omega) | (intro b h1 h2 h3; have h4 : _ = _ := h3; (try dsimp only at h2); exfalso; omega) | (intro h1; have h2 : _ = _ := h1; exfalso; omega) | (intros; exfalso; (try dsimp only at *); omega) | (intro h1; exfalso; have h4 := h1.2; (try dsimp only at *); omega) | (intro x h1 h2; exact h2.1))
        replace hb2 := hb2.chg kq_28 (by first | (intro x h1 h2; exact h2) | (intro x h1 h2; have h3 : _ = _ := h2; subst h3; assumption) | (intro x h1 h2; have h3 : _ = _ := h2; exfalso; omega) | (intro b h1 h2 h3; have h4 : _ = _ := h3; (try dsimp only at h2); exfalso; omega) | (intro h1; have h2 : _ = _ := h1; exfalso; omega) | (intros; exfalso; (try dsimp only at *); omega) | (intro h1; exfalso; have h4 := h1.2; (try dsimp only at *); omega) | (intro x h1 h2; exact h2.1))
        replace h := h.chg kq_28 (by first | (intro x h1 h2; exact h2) | (intro x h1 h2; have h3 : _ = _ := h2; subst h3; assumption) | (intro x h1 h2; have h3 : _ = _ := h2; exfalso; omega) | (intro b h1 h2 h3; have h4 : _ = _ := h3; (try dsimp only at h2); exfalso; omega) | (intro h1; have h2 : _ = _ := h1; exfalso; omega) | (intros; exfalso; (try dsimp only at *); omega) | (intro h1; exfalso; have h4 := h1.2; (try dsimp only at *); omega) | (intro x h1 h2; exact h2.1))
        replace hw := hw.chg kq_28 (by first | (intro x h1 h2; exact h2) | (intro x h1 h2; have h3 : _ = _ := h2; subst h3; assumption) | (intro x h1 h2; have h3 : _ = _ := h2; exfalso; omega) | (intro b h1 h2 h3; have h4 : _ = _ := h3; (try dsimp only at h2); exfalso; omega) | (intro h1; have h2 : _ = _ := h1; exfalso; omega) | (intros; exfalso; (try dsimp only at *); omega) | (intro h1; exfalso; have h4 := h1.2; (try dsimp only at *); omega) | (intro x h1 h2; exact h2.1))
        refine WL.load Try.isAgg3 rfl (h.snaps.cellsAt hx 0 _ rfl) rfl ?_
        refine WL.nil ?_
        exact WX.one ⟨rfl, by first | exact Chg.refl _ _ | assumption⟩
      apply DQT.step (E' := [(1, _)])
      case ho => rfl
      case hs => exact ⟨rfl, trivial⟩
      case hk => rfl
      case h1 =>
        intro wq_29 kq_29
        refine WL.fieldAddr (fld_25_1) rfl rfl (?_)
        refine WL.nil ?_
        exact WX.one ⟨rfl, by first | exact Chg.refl _ _ | assumption⟩
      apply DQT.step (E' := [(31, _)])
      case ho => rfl
      case hs => exact ⟨rfl, trivial⟩
      case hk => rfl
      case h1 =>
        intro wq_30 kq_30
        have zs_kq_30 := kq_30.size
        replace hb1 := hb1.chg kq_30 (by first | (intro x h1 h2; exact h2) | (intro x h1 h2; have h3 : _ = _ := h2; subst h3; assumption) | (intro x h1 h2; have h3 : _ = _ := h2; exfalso; omega) | (intro b h1 h2 h3; have h4 : _ = _ := h3; (try dsimp only at h2); exfalso; omega) | (intro h1; have h2 : _ = _ := h1; exfalso; omega) | (intros; exfalso; (try dsimp only at *); omega) | (intro h1; exfalso; have h4 := h1.2; (try dsimp only at *); omega) | (intro x h1 h2; exact h2.1))
        replace hb2 := hb2.chg kq_30 (by first | (intro x h1 h2; exact h2) | (intro x h1 h2; have h3 : _ = _ := h2; subst h3; assumption) | (intro x h1 h2; have h3 : _ = _ := h2; exfalso; omega) | (intro b h1 h2 h3; have h4 : _ = _ := h3; (try dsimp only at h2); exfalso; omega) | (intro h1; have h2 : _ = _ := h1; exfalso; omega) | (intros; exfalso; (try dsimp only at *); omega) | (intro h1; exfalso; have h4 := h1.2; (try dsimp only at *); omega) | (intro x h1 h2; exact h2.1))
        replace h := h.chg kq_30 (by first | (intro x h1 h2; exact h2) | (intro x h1 h2; have h3 : _ = _ := h2; subst h3; assumption) | (intro x h1 h2; have h3 : _ = _ := h2; exfalso; omega) | (intro b h1 h2 h3; have h4 : _ = _ := h3; (try dsimp only at h2); exfalso; omega) | (intro h1; have h2 : _ = _ := h1; exfalso; omega) | (intros; exfalso; (try dsimp only at *); omega) | (intro h1; exfalso; have h4 := h1.2; (try dsimp only at *); omega) | (intro x h1 h2; exact h2.1))
        replace hw := hw.chg kq_30 (by first | (intro x h1 h2; exact h2) | (intro x h1 h2; have h3 : _ = _ := h2; subst h3; assumption) | (intro x h1 h2; have h3 : _ = _ := h2; exfalso; omega) | (intro b h1 h2 h3; have h4 : _ = _ := h3; (try dsimp only at h2); exfalso; omega) | (intro h1; have h2 : _ = _ := h1; exfalso; omega) | (intros; exfalso; (try dsimp only at *); omega) | (intro h1; exfalso; have h4 := h1.2; (try dsimp only at *); omega) | (intro x h1 h2; exact h2.1))
        refine WL.loadB Try.isAgg22 hb1 rfl rfl rfl (?_)
        refine WL.nil ?_
        exact WX.one ⟨rfl, by first | exact Chg.refl _ _ | assumption⟩
      apply DQT.step (E' := [(4, _)])
      case ho => rfl
      case hs => exact ⟨rfl, trivial⟩
      case hk => rfl
      case h1 =>
        intro wq_31 kq_31
        refine WL.move rfl rfl (?_)
        refine WL.nil ?_
        exact WX.one ⟨rfl, by first | exact Chg.refl _ _ | assumption⟩
      apply DQT.step (E' := [(32, _), (33, _)])
      case ho => rfl
      case hs => exact ⟨rfl, rfl, trivial⟩
      case hk => rfl
      case h1 =>
        intro wq_32 kq_32
        have zs_kq_32 := kq_32.size
        replace hb1 := hb1.chg kq_32 (by first | (intro x h1 h2; exact h2) | (intro x h1 h2; have h3 : _ = _ := h2; subst h3; assumption) | (intro x h1 h2; have h3 : _ = _ := h2; exfalso; omega) | (intro b h1 h2 h3; have h4 : _ = _ := h3; (try dsimp only at h2); exfalso; omega) | (intro h1; have h2 : _ = _ := h1; exfalso; omega) | (intros; exfalso; (try dsimp only at *); omega) | (intro h1; exfalso; have h4 := h1.2; (try dsimp only at *); omega) | (intro x h1 h2; exact h2.1))
        replace hb2 := hb2.chg kq_32 (by first | (intro x h1 h2; exact h2) | (intro x h1 h2; have h3 : _ = _ := h2; subst h3; assumption) | (intro x h1 h2; have h3 : _ = _ := h2; exfalso; omega) | (intro b h1 h2 h3; have h4 : _ = _ := h3; (try dsimp only at h2); exfalso; omega) | (intro h1; have h2 : _ = _ := h1; exfalso; omega) | (intros; exfalso; (try dsimp only at *); omega) | (intro h1; exfalso; have h4 := h1.2; (try dsimp only at *); omega) | (intro x h1 h2; exact h2.1))
        replace h := h.chg kq_32 (by first | (intro x h1 h2; exact h2) | (intro x h1 h2; have h3 : _ = _ := h2; subst h3; assumption) | (intro x h1 h2; have h3 : _ = _ := h2; exfalso; omega) | (intro b h1 h2 h3; have h4 : _ = _ := h3; (try dsimp only at h2); exfalso; omega) | (intro h1; have h2 : _ = _ := h1; exfalso; omega) | (intros; exfalso; (try dsimp only at *); omega) | (intro h1; exfalso; have h4 := h1.2; (try dsimp only at *); omega) | (intro x h1 h2; exact h2.1))
        replace hw := hw.chg kq_32 (by first | (intro x h1 h2; exact h2) | (intro x h1 h2; have h3 : _ = _ := h2; subst h3; assumption) | (intro x h1 h2; have h3 : _ = _ := h2; exfalso; omega) | (intro b h1 h2 h3; have h4 : _ = _ := h3; (try dsimp only at h2); exfalso; omega) | (intro h1; have h2 : _ = _ := h1; exfalso; omega) | (intros; exfalso; (try dsimp only at *); omega) | (intro h1; exfalso; have h4 := h1.2; (try dsimp only at *); omega) | (intro x h1 h2; exact h2.1))
        refine WL.indexC (e := esn) h.snaps Try.underlying22 Try.sizeOf72 rfl rfl ⟨hx, rfl⟩ rfl ?_
        refine WL.nil ?_
        exact WX.one ⟨rfl, by first | exact Chg.refl _ _ | assumption⟩
      apply DQT.step (E' := [(34, _)])
      case ho => rfl
      case hs => exact ⟨rfl, trivial⟩
      case hk => rfl
      case h1 =>
        intro wq_33 kq_33
        refine WL.fieldAddr (fld_72_1) rfl rfl (?_)
        refine WL.nil ?_
        exact WX.one ⟨rfl, by first | exact Chg.refl _ _ | assumption⟩
      apply DQT.step (E' := [(35, _)])
      case ho => rfl
      case hs => exact ⟨rfl, trivial⟩
      case hk => rfl
      case h1 =>
        intro wq_34 kq_34
        have zs_kq_34 := kq_34.size
        replace hb1 := hb1.chg kq_34 (by first | (intro x h1 h2; exact h2) | (intro x h1 h2; have h3 : _ = _ := h2; subst h3; assumption) | (intro x h1 h2; have h3 : _ = _ := h2; exfalso; omega) | (intro b h1 h2 h3; have h4 : _ = _ := h3; (try dsimp only at h2); exfalso; omega) | (intro h1; have h2 : _ = _ := h1; exfalso; omega) | (intros; exfalso; (try dsimp only at *); omega) | (intro h1; exfalso; have h4 := h1.2; (try dsimp only at *); omega) | (intro x h1 h2; exact h2.1))
        replace hb2 := hb2.chg kq_34 (by first | (intro x h1 h2; exact h2) | (intro x h1 h2; have h3 : _ = _ := h2; subst h3; assumption) | (intro x h1 h2; have h3 : _ = _ := h2; exfalso; omega) | (intro b h1 h2 h3; have h4 : _ = _ := h3; (try dsimp only at h2); exfalso; omega) | (intro h1; have h2 : _ = _ := h1; exfalso; omega) | (intros; exfalso; (try dsimp only at *); omega) | (intro h1; exfalso; have h4 := h1.2; (try dsimp only at *); omega) | (intro x h1 h2; exact h2.1))
        replace h := h.chg kq_34 (by first | (intro x h1 h2; exact h2) | (intro x h1 h2; have h3 : _ = _ := h2; subst h3; assumption) | (intro x h1 h2; have h3 : _ = _ := h2; exfalso; omega) | (intro b h1 h2 h3; have h4 : _ = _ := h3; (try dsimp only at h2); exfalso; omega) | (intro h1; have h2 : _ = _ := h1; exfalso; omega) | (intros; exfalso; (try dsimp only at *); omega) | (intro h1; exfalso; have h4 := h1.2; (try dsimp only at *); omega) | (intro x h1 h2; exact h2.1))
        replace hw := hw.chg kq_34 (by first | (intro x h1 h2; exact h2) | (intro x h1 h2; have h3 : _ = _ := h2; subst h3; assumption) | (intro x h1 h2; have h3 : _ = _ := h2; exfalso; omega) | (intro b h1 h2 h3; have h4 : _ = _ := h3; (try dsimp only at h2); exfalso; omega) | (intro h1; have h2 : _ = _ := h1; exfalso; omega) | (intros; exfalso; (try dsimp only at *); omega) | (intro h1; exfalso; have h4 := h1.2; (try dsimp only at *); omega) | (intro x h1 h2; exact h2.1))
        refine WL.load Try.isAgg23 rfl (h.snaps.cellsAt hx 1 _ rfl) rfl ?_
        refine WL.nil ?_
        exact WX.one ⟨rfl, by first | exact Chg.refl _ _ | assumption⟩
      apply DQT.step (E' := [(36, _)])
      case ho => rfl
      case hs => exact ⟨rfl, trivial⟩
      case hk => rfl
      case h1 =>
        intro wq_35 kq_35
        have zs_kq_35 := kq_35.size
        replace hb1 := hb1.chg kq_35 (by first | (intro x h1 h2; exact h2) | (intro x h1 h2; have h3 : _ = _ := h2; subst h3; assumption) | (intro x h1 h2; have h3 : _ = _ := h2; exfalso; omega) | (intro b h1 h2 h3; have h4 : _ = _ := h3; (try dsimp only at h2); exfalso; omega) | (intro h1; have h2 : _ = _ := h1; exfalso; omega) | (intros; exfalso; (try dsimp only at *); omega) | (intro h1; exfalso; have h4 := h1.2; (try dsimp only at *); omega) | (intro x h1 h2; exact h2.1))
        replace hb2 := hb2.chg kq_35 (by first | (intro x h1 h2; exact h2) | (intro x h1 h2; have h3 : _ = _ := h2; subst h3; assumption) | (intro x h1 h2; have h3 : _ = _ := h2; exfalso; omega) | (intro b h1 h2 h3; have h4 : _ = _ := h3; (try dsimp only at h2); exfalso; omega) | (intro h1; have h2 : _ = _ := h1; exfalso; omega) | (intros; exfalso; (try dsimp only at *); omega) | (intro h1; exfalso; have h4 := h1.2; (try dsimp only at *); omega) | (intro x h1 h2; exact h2.1))
        replace h := h.chg kq_35 (by first | (intro x h1 h2; exact h2) | (intro x h1 h2; have h3 : _ = _ := h2; subst h3; assumption) | (intro x h1 h2; have h3 : _ = _ := h2; exfalso; omega) | (intro b h1 h2 h3; have h4 : _ = _ := h3; (try dsimp only at h2); exfalso; omega) | (intro h1; have h2 : _ = _ := h1; exfalso; omega) | (intros; exfalso; (try dsimp only at *); omega) | (intro h1; exfalso; have h4 := h1.2; (try dsimp only at *); omega) | (intro x h1 h2; exact h2.1))
        replace hw := hw.chg kq_35 (by first | (intro x h1 h2; exact h2) | (intro x h1 h2; have h3 : _ = _ := h2; subst h3; assumption) | (intro x h1 h2; have h3 : _ = _ := h2; exfalso; omega) | (intro b h1 h2 h3; have h4 : _ = _ := h3; (try dsimp only at h2); exfalso; omega) | (intro h1; have h2 : _ = _ := h1; exfalso; omega) | (intros; exfalso; (try dsimp only at *); omega) | (intro h1; exfalso; have h4 := h1.2; (try dsimp only at *); omega) | (intro x h1 h2; exact h2.1))
        refine WL.len Try.underlying23 rfl rfl (?_)
        refine WL.nil ?_
        exact WX.one ⟨rfl, by first | exact Chg.refl _ _ | assumption⟩
      apply DQT.step (E' := [(37, _)])
      case ho => rfl
      case hs => exact ⟨rfl, trivial⟩
      case hk => rfl
      case h1 =>
        intro wq_36 kq_36
        refine WL.add64 rfl rfl (by first | omega | (constructor <;> omega)) rfl (?_)
        refine WL.nil ?_
        exact WX.one ⟨rfl, by first | exact Chg.refl _ _ | assumption⟩
      apply DQT.step (E' := [(1, _)])
      case ho => rfl
      case hs => exact ⟨rfl, trivial⟩
      case hk => rfl
      case h1 =>
        intro wq_37 kq_37
        refine WL.fieldAddr (fld_25_1) rfl rfl (?_)
        refine WL.nil ?_
        exact WX.one ⟨rfl, by first | exact Chg.refl _ _ | assumption⟩
      apply DQT.step (E' := [(40, _)])
      case ho => rfl
      case hs => exact ⟨rfl, trivial⟩
      case hk => rfl
      case h1 =>
        intro wq_38 kq_38
        have zs_kq_38 := kq_38.size
        replace hb1 := hb1.chg kq_38 (by first | (intro x h1 h2; exact h2) | (intro x h1 h2; have h3 : _ = _ := h2; subst h3; assumption) | (intro x h1 h2; have h3 : _ = _ := h2; exfalso; omega) | (intro b h1 h2 h3; have h4 : _ = _ := h3; (try dsimp only at h2); exfalso; omega) | (intro h1; have h2 : _ = _ := h1; exfalso; omega) | (intros; exfalso; (try dsimp only at *); omega) | (intro h1; exfalso; have h4 := h1.2; (try dsimp only at *); omega) | (intro x h1 h2; exact h2.1))
        replace hb2 := hb2.chg kq_38 (by first | (intro x h1 h2; exact h2) | (intro x h1 h2; have h3 : _ = _ := h2; subst h3; assumption) | (intro x h1 h2; have h3 : _ = _ := h2; exfalso; omega) | (intro b h1 h2 h3; have h4 : _ = _ := h3; (try dsimp only at h2); exfalso; omega) | (intro h1; have h2 : _ = _ := h1; exfalso; omega) | (intros; exfalso; (try dsimp only at *); omega) | (intro h1; exfalso; have h4 := h1.2; (try dsimp only at *); omega) | (intro x h1 h2; exact h2.1))
        replace h := h.chg kq_38 (by first | (intro x h1 h2; exact h2) | (intro x h1 h2; have h3 : _ = _ := h2; subst h3; assumption) | (intro x h1 h2; have h3 : _ = _ := h2; exfalso; omega) | (intro b h1 h2 h3; have h4 : _ = _ := h3; (try dsimp only at h2); exfalso; omega) | (intro h1; have h2 : _ = _ := h1; exfalso; omega) | (intros; exfalso; (try dsimp only at *); omega) | (intro h1; exfalso; have h4 := h1.2; (try dsimp only at *); omega) | (intro x h1 h2; exact h2.1))
        replace hw := hw.chg kq_38 (by first | (intro x h1 h2; exact h2) | (intro x h1 h2; have h3 : _ = _ := h2; subst h3; assumption) | (intro x h1 h2; have h3 : _ = _ := h2; exfalso; omega) | (intro b h1 h2 h3; have h4 : _ = _ := h3; (try dsimp only at h2); exfalso; omega) | (intro h1; have h2 : _ = _ := h1; exfalso; omega) | (intros; exfalso; (try dsimp only at *); omega) | (intro h1; exfalso; have h4 := h1.2; (try dsimp only at *); omega) | (intro x h1 h2; exact h2.1))
        refine WL.loadB Try.isAgg22 hb1 rfl rfl rfl (?_)
        refine WL.nil ?_
        exact WX.one ⟨rfl, by first | exact Chg.refl _ _ | assumption⟩
      apply DQT.step (E' := [(4, _)])
      case ho => rfl
      case hs => exact ⟨rfl, trivial⟩
      case hk => rfl
      case h1 =>
        intro wq_39 kq_39
        refine WL.move rfl rfl (?_)
        refine WL.nil ?_
        exact WX.one ⟨rfl, by first | exact Chg.refl _ _ | assumption⟩
      apply DQT.step (E' := [(41, _), (42, _)])
      case ho => rfl
      case hs => exact ⟨rfl, rfl, trivial⟩
      case hk => rfl
      case h1 =>
        intro wq_40 kq_40
        have zs_kq_40 := kq_40.size
        replace hb1 := hb1.chg kq_40 (by first | (intro x h1 h2; exact h2) | (intro x h1 h2; have h3 : _ = _ := h2; subst h3; assumption) | (intro x h1 h2; have h3 : _ = _ := h2; exfalso; omega) | (intro b h1 h2 h3; have h4 : _ = _ := h3; (try dsimp only at h2); exfalso; omega) | (intro h1; have h2 : _ = _ := h1; exfalso; omega) | (intros; exfalso; (try dsimp only at *); omega) | (intro h1; exfalso; have h4 := h1.2; (try dsimp only at *); omega) | (intro x h1 h2; exact h2.1))
        replace hb2 := hb2.chg kq_40 (by first | (intro x h1 h2; exact h2) | (intro x h1 h2; have h3 : _ = _ := h2; subst h3; assumption) | (intro x h1 h2; have h3 : _ = _ := h2; exfalso; omega) | (intro b h1 h2 h3; have h4 : _ = _ := h3; (try dsimp only at h2); exfalso; omega) | (intro h1; have h2 : _ = _ := h1; exfalso; omega) | (intros; exfalso; (try dsimp only at *); omega) | (intro h1; exfalso; have h4 := h1.2; (try dsimp only at *); omega) | (intro x h1 h2; exact h2.1))
        replace h := h.chg kq_40 (by first | (intro x h1 h2; exact h2) | (intro x h1 h2; have h3 : _ = _ := h2; subst h3; assumption) | (intro x h1 h2; have h3 : _ = _ := h2; exfalso; omega) | (intro b h1 h2 h3; have h4 : _ = _ := h3; (try dsimp only at h2); exfalso; omega) | (intro h1; have h2 : _ = _ := h1; exfalso; omega) | (intros; exfalso; (try dsimp only at *); omega) | (intro h1; exfalso; have h4 := h1.2; (try dsimp only at *); omega) | (intro x h1 h2; exact h2.1))
        replace hw := hw.chg kq_40 (by first | (intro x h1 h2; exact h2) | (intro x h1 h2; have h3 : _ = _ := h2; subst h3; assumption) | (intro x h1 h2; have h3 : _ = _ := h2; exfalso; omega) | (intro b h1 h2 h3; have h4 : _ = _ := h3; (try dsimp only at h2); exfalso; omega) | (intro h1; have h2 : _ = _ := h1; exfalso; omega) | (intros; exfalso; (try dsimp only at *); omega) | (intro h1; exfalso; have h4 := h1.2; (try dsimp only at *); omega) | (intro x h1 h2; exact h2.1))
        refine WL.indexC (e := esn) h.snaps Try.underlying22 Try.sizeOf72 rfl rfl ⟨hx, rfl⟩ rfl ?_
        refine WL.nil ?_
        exact WX.one ⟨rfl, by first | exact Chg.refl _ _ | assumption⟩
      apply DQT.step (E' := [(43, _)])
      case ho => rfl
      case hs => exact ⟨rfl, trivial⟩
      case hk => rfl
      case h1 =>
        intro wq_41 kq_41
        refine WL.fieldAddr (fld_72_1) rfl rfl (?_)
        refine WL.nil ?_
        exact WX.one ⟨rfl, by first | exact Chg.refl _ _ | assumption⟩
      apply DQT.step (E' := [(44, _)])
      case ho => rfl
      case hs => exact ⟨rfl, trivial⟩
      case hk => rfl
      case h1 =>
        intro wq_42 kq_42
        have zs_kq_42 := kq_42.size
        replace hb1 := hb1.chg kq_42 (by first | (intro x h1 h2; exact h2) | (intro x h1 h2; have h3 : _ = _ := h2; subst h3; assumption) | (intro x h1 h2; have h3 : _ = _ := h2; exfalso; omega) | (intro b h1 h2 h3; have h4 : _ = _ := h3; (try dsimp only at h2); exfalso; omega) | (intro h1; have h2 : _ = _ := h1; exfalso; omega) | (intros; exfalso; (try dsimp only at *); omega) | (intro h1; exfalso; have h4 := h1.2; (try dsimp only at *); omega) | (intro x h1 h2; exact h2.1))
        replace hb2 := hb2.chg kq_42 (by first | (intro x h1 h2; exact h2) | (intro x h1 h2; have h3 : _ = _ := h2; subst h3; assumption) | (intro x h1 h2; have h3 : _ = _ := h2; exfalso; omega) | (intro b h1 h2 h3; have h4 : _ = _ := h3; (try dsimp only at h2); exfalso; omega) | (intro h1; have h2 : _ = _ := h1; exfalso; omega) | (intros; exfalso; (try dsimp only at *); omega) | (intro h1; exfalso; have h4 := h1.2; (try dsimp only at *); omega) | (intro x h1 h2; exact h2.1))
        replace h := h.chg kq_42 (by first | (intro x h1 h2; exact h2) | (intro x h1 h2; have h3 : _ = _ := h2; subst h3; assumption) | (intro x h1 h2; have h3 : _ = _ := h2; exfalso; omega) | (intro b h1 h2 h3; have h4 : _ = _ := h3; (try dsimp only at h2); exfalso; omega) | (intro h1; have h2 : _ = _ := h1; exfalso; omega) | (intros; exfalso; (try dsimp only at *); omega) | (intro h1; exfalso; have h4 := h1.2; (try dsimp only at *); omega) | (intro x h1 h2; exact h2.1))
        replace hw := hw.chg kq_42 (by first | (intro x h1 h2; exact h2) | (intro x h1 h2; have h3 : _ = _ := h2; subst h3; assumption) | (intro x h1 h2; have h3 : _ = _ := h2; exfalso; omega) | (intro b h1 h2 h3; have h4 : _ = _ := h3; (try dsimp only at h2); exfalso; omega) | (intro h1; have h2 : _ = _ := h1; exfalso; omega) | (intros; exfalso; (try dsimp only at *); omega) | (intro h1; exfalso; have h4 := h1.2; (try dsimp only at *); omega) | (intro x h1 h2; exact h2.1))
        refine WL.load Try.isAgg23 rfl (h.snaps.cellsAt hx 1 _ rfl) rfl ?_
        refine WL.nil ?_
        exact WX.one ⟨rfl, by first | exact Chg.refl _ _ | assumption⟩
      apply DQT.step (E' := [(3, _)])
      case ho => rfl
      case hs => exact ⟨rfl, trivial⟩
      case hk => rfl
      case h1 =>
        intro wq_43 kq_43
        refine WL.fieldAddr (fld_33_1) rfl rfl (?_)
        refine WL.nil ?_
        exact WX.one ⟨rfl, by first | exact Chg.refl _ _ | assumption⟩
      refine DQT.done (fun hd_21 => ?_)
      refine ⟨?_, ?_, trivial, trivial, trivial, trivial, trivial, trivial⟩
      refine DT.step [(23, _)] rfl ⟨rfl, trivial⟩ rfl (fun wq_44 kq_44 => ?_)
      have zs_kq_44 := kq_44.size
      replace hb1 := hb1.pure kq_44
      replace hb2 := hb2.pure kq_44
      replace hb3 := hb3.pure kq_44
      replace h := h.pure kq_44
      replace hw := hw.pure kq_44
      replace hO := hO.pure kq_44
      replace hd_21 := hd_21.pure kq_44
      refine WL.loadB Try.isAgg31 hb3 rfl rfl rfl (?_)
      refine WL.nil (WX.one ⟨hd_21, ?_⟩)
      refine ⟨?_, trivial, trivial, trivial, trivial, trivial, trivial⟩
      refine DT.step [(38, _)] rfl ⟨rfl, trivial⟩ rfl (fun wq_45 kq_45 => ?_)
      have zs_kq_45 := kq_45.size
      replace hb1 := hb1.pure kq_45
      replace hb2 := hb2.pure kq_45
      replace hb3 := hb3.pure kq_45
      replace h := h.pure kq_45
      replace hw := hw.pure kq_45
      replace hO := hO.pure kq_45
      replace hd_21 := hd_21.pure kq_45
      obtain ⟨n1, hn1⟩ := szNow hw
      refine WL.makeB (e := ept) zp 0 (x.dead.length + 2) Try.underlying23 info_27 rfl rfl rfl ⟨rfl, rfl, Nat.zero_le _⟩ (by constructor <;> omega) rfl ?_
      intro g12 w12 hm k12 z12 e12
      replace hO := hO.lt.mono (S' := fun b => ((w.heap.size ≤ b ∧ b ≠ g_1 ∧ b ≠ g_2) ∧ b ≠ g3) ∧ b ≠ g12) (fun b hb => ⟨hb.1, by have := hb.2; omega⟩)
      have hS12 : (w.heap.size ≤ g12 ∧ g12 ≠ g_1 ∧ g12 ≠ g_2) ∧ g12 ≠ g3 := by omega
      have zs_k12 := k12.size
      replace hb1 := hb1.pure k12
      replace hb2 := hb2.pure k12
      replace hb3 := hb3.pure k12
      replace h := h.pure k12
      replace hw := hw.pure k12
      replace hO := hO.pure k12
      replace hd_21 := hd_21.pure k12
      refine WL.nil (WX.one ⟨hd_21, ?_⟩)
      refine ⟨?_, trivial, trivial, trivial, trivial, trivial⟩
      refine DT.step [(39, _), (45, _)] rfl ⟨rfl, rfl, trivial⟩ rfl (fun wq_46 kq_46 => ?_)
      have zs_kq_46 := kq_46.size
      replace hb1 := hb1.pure kq_46
      replace hb2 := hb2.pure kq_46
      replace hb3 := hb3.pure kq_46
      replace h := h.pure kq_46
      replace hw := hw.pure kq_46
      replace hO := hO.pure kq_46
      replace hd_21 := hd_21.pure kq_46
      replace hm := hm.pure kq_46
      refine WL.appendB (e := ept) (ys := x.dead) info_27 Try.underlying23 rfl rfl hm (by rw [List.length_replicate]) ((h.inner x hxm).src Try.underlying23) (by omega) rfl ?_
      intro w9 hI0 gk n9
      rw [app2] at hI0
      rw [Nat.zero_add x.dead.length]
      have zs_gk := gk.size
      replace hb1 := hb1.chg gk (by first | (intro x h1 h2; exact h2) | (intro x h1 h2; have h3 : _ = _ := h2; subst h3; assumption) | (intro x h1 h2; have h3 : _ = _ := h2; exfalso; omega) | (intro b h1 h2 h3; have h4 : _ = _ := h3; (try dsimp only at h2); exfalso; omega) | (intro h1; have h2 : _ = _ := h1; exfalso; omega) | (intros; exfalso; (try dsimp only at *); omega) | (intro h1; exfalso; have h4 := h1.2; (try dsimp only at *); omega) | (intro x h1 h2; exact h2.1))
      replace hb2 := hb2.chg gk (by first | (intro x h1 h2; exact h2) | (intro x h1 h2; have h3 : _ = _ := h2; subst h3; assumption) | (intro x h1 h2; have h3 : _ = _ := h2; exfalso; omega) | (intro b h1 h2 h3; have h4 : _ = _ := h3; (try dsimp only at h2); exfalso; omega) | (intro h1; have h2 : _ = _ := h1; exfalso; omega) | (intros; exfalso; (try dsimp only at *); omega) | (intro h1; exfalso; have h4 := h1.2; (try dsimp only at *); omega) | (intro x h1 h2; exact h2.1))
      replace hb3 := hb3.chg gk (by first | (intro x h1 h2; exact h2) | (intro x h1 h2; have h3 : _ = _ := h2; subst h3; assumption) | (intro x h1 h2; have h3 : _ = _ := h2; exfalso; omega) | (intro b h1 h2 h3; have h4 : _ = _ := h3; (try dsimp only at h2); exfalso; omega) | (intro h1; have h2 : _ = _ := h1; exfalso; omega) | (intros; exfalso; (try dsimp only at *); omega) | (intro h1; exfalso; have h4 := h1.2; (try dsimp only at *); omega) | (intro x h1 h2; exact h2.1))
      replace h := h.chg gk (by first | (intro x h1 h2; exact h2) | (intro x h1 h2; have h3 : _ = _ := h2; subst h3; assumption) | (intro x h1 h2; have h3 : _ = _ := h2; exfalso; omega) | (intro b h1 h2 h3; have h4 : _ = _ := h3; (try dsimp only at h2); exfalso; omega) | (intro h1; have h2 : _ = _ := h1; exfalso; omega) | (intros; exfalso; (try dsimp only at *); omega) | (intro h1; exfalso; have h4 := h1.2; (try dsimp only at *); omega) | (intro x h1 h2; exact h2.1))
      replace hw := hw.chg gk (by first | (intro x h1 h2; exact h2) | (intro x h1 h2; have h3 : _ = _ := h2; subst h3; assumption) | (intro x h1 h2; have h3 : _ = _ := h2; exfalso; omega) | (intro b h1 h2 h3; have h4 : _ = _ := h3; (try dsimp only at h2); exfalso; omega) | (intro h1; have h2 : _ = _ := h1; exfalso; omega) | (intros; exfalso; (try dsimp only at *); omega) | (intro h1; exfalso; have h4 := h1.2; (try dsimp only at *); omega) | (intro x h1 h2; exact h2.1))
      replace hO := hO.chg gk (by first | (intro x h1 h2; exact h2) | (intro x h1 h2; have h3 : _ = _ := h2; subst h3; assumption) | (intro x h1 h2; have h3 : _ = _ := h2; exfalso; omega) | (intro b h1 h2 h3; have h4 : _ = _ := h3; (try dsimp only at h2); exfalso; omega) | (intro h1; have h2 : _ = _ := h1; exfalso; omega) | (intros; exfalso; (try dsimp only at *); omega) | (intro h1; exfalso; have h4 := h1.2; (try dsimp only at *); omega) | (intro x h1 h2; exact h2.1))
      replace hd_21 := hd_21.chg gk (by first | (intro x h1 h2; exact h2) | (intro x h1 h2; have h3 : _ = _ := h2; subst h3; assumption) | (intro x h1 h2; have h3 : _ = _ := h2; exfalso; omega) | (intro b h1 h2 h3; have h4 : _ = _ := h3; (try dsimp only at h2); exfalso; omega) | (intro h1; have h2 : _ = _ := h1; exfalso; omega) | (intros; exfalso; (try dsimp only at *); omega) | (intro h1; exfalso; have h4 := h1.2; (try dsimp only at *); omega) | (intro x h1 h2; exact h2.1))
      have hI : Sp2 (fun b => (w.heap.size ≤ b ∧ b ≠ g_1 ∧ b ≠ g_2) ∧ b ≠ g3) _ (some ⟨g12, 0, none⟩) (x.dead.length + 2) x.dead := ⟨⟨g12, rfl, hS12, hI0⟩, rfl⟩
      refine WL.nil (WX.one ⟨hd_21, ?_⟩)
      refine ⟨?_, trivial, trivial, trivial, trivial⟩
      refine DT.step [(30, _), (46, _)] rfl ⟨rfl, rfl, trivial⟩ rfl (fun wq_47 kq_47 => ?_)
      have zs_kq_47 := kq_47.size
      replace hb1 := hb1.pure kq_47
      replace hb2 := hb2.pure kq_47
      replace hb3 := hb3.pure kq_47
      replace h := h.pure kq_47
      replace hw := hw.pure kq_47
      replace hO := hO.pure kq_47
      replace hd_21 := hd_21.pure kq_47
      replace hI := hI.pure kq_47
      refine WL.bld rfl (bld_65_0_1 _ _ _ _) rfl (?_)
      refine WL.nil (WX.one ⟨hd_21, ?_⟩)
      refine ⟨?_, trivial, trivial, trivial⟩
      refine DT.step [(47, _)] rfl ⟨rfl, trivial⟩ rfl (fun wq_48 kq_48 => ?_)
      have zs_kq_48 := kq_48.size
      replace hb1 := hb1.pure kq_48
      replace hb2 := hb2.pure kq_48
      replace hb3 := hb3.pure kq_48
      replace h := h.pure kq_48
      replace hw := hw.pure kq_48
      replace hO := hO.pure kq_48
      replace hd_21 := hd_21.pure kq_48
      replace hI := hI.pure kq_48
      refine WL.build (e := esn) [⟨x.txg, some ⟨g12, 0, none⟩, x.dead.length + 2, x.dead⟩] Try.underlying31 Try.sizeOf65 Try.zeroValue65 rfl rfl rfl (by first | (simp [Value.cells]; done) | (simp [Value.cells] <;> rfl) | (simp [Value.cells, eb, ei, es, ebool, e32, e64]; done)) (by decide) rfl ?_
      intro a_hq w_hq hq l_hq z_hq k_hq
      have zs_k_hq := k_hq.size
      replace hb1 := hb1.pure k_hq
      replace hb2 := hb2.pure k_hq
      replace hb3 := hb3.pure k_hq
      replace h := h.pure k_hq
      replace hw := hw.pure k_hq
      replace hO := hO.pure k_hq
      replace hd_21 := hd_21.pure k_hq
      replace hI := hI.pure k_hq
      refine WL.nil (WX.one ⟨hd_21, ?_⟩)
      refine ⟨?_, trivial, trivial⟩
      refine DT.step [(24, _), (48, _)] rfl ⟨rfl, rfl, trivial⟩ rfl (fun wq_49 kq_49 => ?_)
      have zs_kq_49 := kq_49.size
      replace hb1 := hb1.pure kq_49
      replace hb2 := hb2.pure kq_49
      replace hb3 := hb3.pure kq_49
      replace h := h.pure kq_49
      replace hw := hw.pure kq_49
      replace hO := hO.pure kq_49
      replace hd_21 := hd_21.pure kq_49
      replace hI := hI.pure kq_49
      replace hq := hq.pure kq_49
      refine WL.append (e := esn) (S := fun b => (w.heap.size ≤ b ∧ b ≠ g_1 ∧ b ≠ g_2) ∧ b ≠ g3) info_65 rfl Try.underlying31 rfl rfl (hO.snaps.mono (fun b hb => hb.1)) (hq.rsl.src Try.underlying31) (by show (sn2.length + 1) * 32 ≤ _ ∧ sn2.length + 1 ≤ _; constructor <;> omega) (fun x hx => by omega) rfl ?_
      intro as9 cs9 w8 hR8 gg8 n8
      have hO8 := (hO.mono (S' := fun b => (w.heap.size ≤ b ∧ b ≠ g_1 ∧ b ≠ g_2) ∧ b ≠ g3) (fun b hb => hb.1)).push hI hR8 gg8
      have gk8 := gg8.chg.mono (fun x _ hx => hx.2)
      have zs_gk8 := gk8.size
      replace hb1 := hb1.chg gk8 (by first | (intro x h1 h2; exact h2) | (intro x h1 h2; have h3 : _ = _ := h2; subst h3; assumption) | (intro x h1 h2; have h3 : _ = _ := h2; exfalso; omega) | (intro b h1 h2 h3; have h4 : _ = _ := h3; (try dsimp only at h2); exfalso; omega) | (intro h1; have h2 : _ = _ := h1; exfalso; omega) | (intros; exfalso; (try dsimp only at *); omega) | (intro h1; exfalso; have h4 := h1.2; (try dsimp only at *); omega) | (intro x h1 h2; exact h2.1))
      replace hb2 := hb2.chg gk8 (by first | (intro x h1 h2; exact h2) | (intro x h1 h2; have h3 : _ = _ := h2; subst h3; assumption) | (intro x h1 h2; have h3 : _ = _ := h2; exfalso; omega) | (intro b h1 h2 h3; have h4 : _ = _ := h3; (try dsimp only at h2); exfalso; omega) | (intro h1; have h2 : _ = _ := h1; exfalso; omega) | (intros; exfalso; (try dsimp only at *); omega) | (intro h1; exfalso; have h4 := h1.2; (try dsimp only at *); omega) | (intro x h1 h2; exact h2.1))
      replace hb3 := hb3.chg gk8 (by first | (intro x h1 h2; exact h2) | (intro x h1 h2; have h3 : _ = _ := h2; subst h3; assumption) | (intro x h1 h2; have h3 : _ = _ := h2; exfalso; omega) | (intro b h1 h2 h3; have h4 : _ = _ := h3; (try dsimp only at h2); exfalso; omega) | (intro h1; have h2 : _ = _ := h1; exfalso; omega) | (intros; exfalso; (try dsimp only at *); omega) | (intro h1; exfalso; have h4 := h1.2; (try dsimp only at *); omega) | (intro x h1 h2; exact h2.1))
      replace h := h.chg gk8 (by first | (intro x h1 h2; exact h2) | (intro x h1 h2; have h3 : _ = _ := h2; subst h3; assumption) | (intro x h1 h2; have h3 : _ = _ := h2; exfalso; omega) | (intro b h1 h2 h3; have h4 : _ = _ := h3; (try dsimp only at h2); exfalso; omega) | (intro h1; have h2 : _ = _ := h1; exfalso; omega) | (intros; exfalso; (try dsimp only at *); omega) | (intro h1; exfalso; have h4 := h1.2; (try dsimp only at *); omega) | (intro x h1 h2; exact h2.1))
      replace hw := hw.chg gk8 (by first | (intro x h1 h2; exact h2) | (intro x h1 h2; have h3 : _ = _ := h2; subst h3; assumption) | (intro x h1 h2; have h3 : _ = _ := h2; exfalso; omega) | (intro b h1 h2 h3; have h4 : _ = _ := h3; (try dsimp only at h2); exfalso; omega) | (intro h1; have h2 : _ = _ := h1; exfalso; omega) | (intros; exfalso; (try dsimp only at *); omega) | (intro h1; exfalso; have h4 := h1.2; (try dsimp only at *); omega) | (intro x h1 h2; exact h2.1))
      replace hd_21 := hd_21.chg gk8 (by first | (intro x h1 h2; exact h2) | (intro x h1 h2; have h3 : _ = _ := h2; subst h3; assumption) | (intro x h1 h2; have h3 : _ = _ := h2; exfalso; omega) | (intro b h1 h2 h3; have h4 : _ = _ := h3; (try dsimp only at h2); exfalso; omega) | (intro h1; have h2 : _ = _ := h1; exfalso; omega) | (intros; exfalso; (try dsimp only at *); omega) | (intro h1; exfalso; have h4 := h1.2; (try dsimp only at *); omega) | (intro x h1 h2; exact h2.1))
      refine WL.nil (WX.one ⟨hd_21, ?_⟩)
      refine ⟨?_, trivial⟩
      refine DT.step [(50, _), (49, _)] rfl ⟨rfl, rfl, trivial⟩ rfl (fun wq_50 kq_50 => ?_)
      have zs_kq_50 := kq_50.size
      replace hb1 := hb1.pure kq_50
      replace hb2 := hb2.pure kq_50
      replace hb3 := hb3.pure kq_50
      replace h := h.pure kq_50
      replace hw := hw.pure kq_50
      replace hd_21 := hd_21.pure kq_50
      replace hO8 := hO8.pure kq_50
      refine WL.store Try.sizeOf31 hb3 rfl rfl rfl rfl ?_
      intro w_51 hs_51 hn_51 k_51
      have zs_k_51 := k_51.size
      replace hb1 := hb1.chg k_51 (by first | (intro x h1 h2; exact h2) | (intro x h1 h2; have h3 : _ = _ := h2; subst h3; assumption) | (intro x h1 h2; have h3 : _ = _ := h2; exfalso; omega) | (intro b h1 h2 h3; have h4 : _ = _ := h3; (try dsimp only at h2); exfalso; omega) | (intro h1; have h2 : _ = _ := h1; exfalso; omega) | (intros; exfalso; (try dsimp only at *); omega) | (intro h1; exfalso; have h4 := h1.2; (try dsimp only at *); omega) | (intro x h1 h2; exact h2.1))
      replace hb2 := hb2.chg k_51 (by first | (intro x h1 h2; exact h2) | (intro x h1 h2; have h3 : _ = _ := h2; subst h3; assumption) | (intro x h1 h2; have h3 : _ = _ := h2; exfalso; omega) | (intro b h1 h2 h3; have h4 : _ = _ := h3; (try dsimp only at h2); exfalso; omega) | (intro h1; have h2 : _ = _ := h1; exfalso; omega) | (intros; exfalso; (try dsimp only at *); omega) | (intro h1; exfalso; have h4 := h1.2; (try dsimp only at *); omega) | (intro x h1 h2; exact h2.1))
      replace h := h.chg k_51 (by first | (intro x h1 h2; exact h2) | (intro x h1 h2; have h3 : _ = _ := h2; subst h3; assumption) | (intro x h1 h2; have h3 : _ = _ := h2; exfalso; omega) | (intro b h1 h2 h3; have h4 : _ = _ := h3; (try dsimp only at h2); exfalso; omega) | (intro h1; have h2 : _ = _ := h1; exfalso; omega) | (intros; exfalso; (try dsimp only at *); omega) | (intro h1; exfalso; have h4 := h1.2; (try dsimp only at *); omega) | (intro x h1 h2; exact h2.1))
      replace hw := hw.chg k_51 (by first | (intro x h1 h2; exact h2) | (intro x h1 h2; have h3 : _ = _ := h2; subst h3; assumption) | (intro x h1 h2; have h3 : _ = _ := h2; exfalso; omega) | (intro b h1 h2 h3; have h4 : _ = _ := h3; (try dsimp only at h2); exfalso; omega) | (intro h1; have h2 : _ = _ := h1; exfalso; omega) | (intros; exfalso; (try dsimp only at *); omega) | (intro h1; exfalso; have h4 := h1.2; (try dsimp only at *); omega) | (intro x h1 h2; exact h2.1))
      replace hd_21 := hd_21.chg k_51 (by first | (intro x h1 h2; exact h2) | (intro x h1 h2; have h3 : _ = _ := h2; subst h3; assumption) | (intro x h1 h2; have h3 : _ = _ := h2; exfalso; omega) | (intro b h1 h2 h3; have h4 : _ = _ := h3; (try dsimp only at h2); exfalso; omega) | (intro h1; have h2 : _ = _ := h1; exfalso; omega) | (intros; exfalso; (try dsimp only at *); omega) | (intro h1; exfalso; have h4 := h1.2; (try dsimp only at *); omega) | (intro x h1 h2; exact h2.1))
      replace hO8 := hO8.chg k_51 (by first | (intro x h1 h2; exact h2) | (intro x h1 h2; have h3 : _ = _ := h2; subst h3; assumption) | (intro x h1 h2; have h3 : _ = _ := h2; exfalso; omega) | (intro b h1 h2 h3; have h4 : _ = _ := h3; (try dsimp only at h2); exfalso; omega) | (intro h1; have h2 : _ = _ := h1; exfalso; omega) | (intros; exfalso; (try dsimp only at *); omega) | (intro h1; exfalso; have h4 := h1.2; (try dsimp only at *); omega) | (intro x h1 h2; exact h2.1))
      replace hb3 := hn_51
      refine WL.nil (WX.one0 (v := undef) ⟨hd_21, ?_⟩)
      refine DT.done (fun we_52 ke_52 => ?_) _
      have zs_ke_52 := ke_52.size
      replace hb1 := hb1.pure ke_52
      replace hb2 := hb2.pure ke_52
      replace hb3 := hb3.pure ke_52
      replace h := h.pure ke_52
      replace hw := hw.pure ke_52
      replace hd_21 := hd_21.pure ke_52
      replace hO8 := hO8.pure ke_52
      rotate_left
      refine DT.step [(38, _)] rfl ⟨rfl, trivial⟩ rfl (fun wq_44 kq_44 => ?_)
      have zs_kq_44 := kq_44.size
      replace hb1 := hb1.pure kq_44
      replace hb2 := hb2.pure kq_44
      replace hb3 := hb3.pure kq_44
      replace h := h.pure kq_44
      replace hw := hw.pure kq_44
      replace hO := hO.pure kq_44
      replace hd_21 := hd_21.pure kq_44
      obtain ⟨n1, hn1⟩ := szNow hw
      refine WL.makeB (e := ept) zp 0 (x.dead.length + 2) Try.underlying23 info_27 rfl rfl rfl ⟨rfl, rfl, Nat.zero_le _⟩ (by constructor <;> omega) rfl ?_
      intro g12 w12 hm k12 z12 e12
      replace hO := hO.lt.mono (S' := fun b => ((w.heap.size ≤ b ∧ b ≠ g_1 ∧ b ≠ g_2) ∧ b ≠ g3) ∧ b ≠ g12) (fun b hb => ⟨hb.1, by have := hb.2; omega⟩)
      have hS12 : (w.heap.size ≤ g12 ∧ g12 ≠ g_1 ∧ g12 ≠ g_2) ∧ g12 ≠ g3 := by omega
      have zs_k12 := k12.size
      replace hb1 := hb1.pure k12
      replace hb2 := hb2.pure k12
      replace hb3 := hb3.pure k12
      replace h := h.pure k12
      replace hw := hw.pure k12
      replace hO := hO.pure k12
      replace hd_21 := hd_21.pure k12
      refine WL.nil (WX.one ⟨hd_21, ?_⟩)
      refine ⟨?_, ?_, trivial, trivial, trivial, trivial, trivial⟩
      refine DT.step [(23, _)] rfl ⟨rfl, trivial⟩ rfl (fun wq_45 kq_45 => ?_)
      have zs_kq_45 := kq_45.size
      replace hb1 := hb1.pure kq_45
      replace hb2 := hb2.pure kq_45
      replace hb3 := hb3.pure kq_45
      replace h := h.pure kq_45
      replace hw := hw.pure kq_45
      replace hO := hO.pure kq_45
      replace hd_21 := hd_21.pure kq_45
      replace hm := hm.pure kq_45
      refine WL.loadB Try.isAgg31 hb3 rfl rfl rfl (?_)
      refine WL.nil (WX.one ⟨hd_21, ?_⟩)
      refine ⟨?_, trivial, trivial, trivial, trivial, trivial⟩
      refine DT.step [(39, _), (45, _)] rfl ⟨rfl, rfl, trivial⟩ rfl (fun wq_46 kq_46 => ?_)
      have zs_kq_46 := kq_46.size
      replace hb1 := hb1.pure kq_46
      replace hb2 := hb2.pure kq_46
      replace hb3 := hb3.pure kq_46
      replace h := h.pure kq_46
      replace hw := hw.pure kq_46
      replace hO := hO.pure kq_46
      replace hd_21 := hd_21.pure kq_46
      replace hm := hm.pure kq_46
      refine WL.appendB (e := ept) (ys := x.dead) info_27 Try.underlying23 rfl rfl hm (by rw [List.length_replicate]) ((h.inner x hxm).src Try.underlying23) (by omega) rfl ?_
      intro w9 hI0 gk n9
      rw [app2] at hI0
      rw [Nat.zero_add x.dead.length]
      have zs_gk := gk.size
      replace hb1 := hb1.chg gk (by first | (intro x h1 h2; exact h2) | (intro x h1 h2; have h3 : _ = _ := h2; subst h3; assumption) | (intro x h1 h2; have h3 : _ = _ := h2; exfalso; omega) | (intro b h1 h2 h3; have h4 : _ = _ := h3; (try dsimp only at h2); exfalso; omega) | (intro h1; have h2 : _ = _ := h1; exfalso; omega) | (intros; exfalso; (try dsimp only at *); omega) | (intro h1; exfalso; have h4 := h1.2; (try dsimp only at *); omega) | (intro x h1 h2; exact h2.1))
      replace hb2 := hb2.chg gk (by first | (intro x h1 h2; exact h2) | (intro x h1 h2; have h3 : _ = _ := h2; subst h3; assumption) | (intro x h1 h2; have h3 : _ = _ := h2; exfalso; omega) | (intro b h1 h2 h3; have h4 : _ = _ := h3; (try dsimp only at h2); exfalso; omega) | (intro h1; have h2 : _ = _ := h1; exfalso; omega) | (intros; exfalso; (try dsimp only at *); omega) | (intro h1; exfalso; have h4 := h1.2; (try dsimp only at *); omega) | (intro x h1 h2; exact h2.1))
      replace hb3 := hb3.chg gk (by first | (intro x h1 h2; exact h2) | (intro x h1 h2; have h3 : _ = _ := h2; subst h3; assumption) | (intro x h1 h2; have h3 : _ = _ := h2; exfalso; omega) | (intro b h1 h2 h3; have h4 : _ = _ := h3; (try dsimp only at h2); exfalso; omega) | (intro h1; have h2 : _ = _ := h1; exfalso; omega) | (intros; exfalso; (try dsimp only at *); omega) | (intro h1; exfalso; have h4 := h1.2; (try dsimp only at *); omega) | (intro x h1 h2; exact h2.1))
      replace h := h.chg gk (by first | (intro x h1 h2; exact h2) | (intro x h1 h2; have h3 : _ = _ := h2; subst h3; assumption) | (intro x h1 h2; have h3 : _ = _ := h2; exfalso; omega) | (intro b h1 h2 h3; have h4 : _ = _ := h3; (try dsimp only at h2); exfalso; omega) | (intro h1; have h2 : _ = _ := h1; exfalso; omega) | (intros; exfalso; (try dsimp only at *); omega) | (intro h1; exfalso; have h4 := h1.2; (try dsimp only at *); omega) | (intro x h1 h2; exact h2.1))
      replace hw := hw.chg gk (by first | (intro x h1 h2; exact h2) | (intro x h1 h2; have h3 : _ = _ := h2; subst h3; assumption) | (intro x h1 h2; have h3 : _ = _ := h2; exfalso; omega) | (intro b h1 h2 h3; have h4 : _ = _ := h3; (try dsimp only at h2); exfalso; omega) | (intro h1; have h2 : _ = _ := h1; exfalso; omega) | (intros; exfalso; (try dsimp only at *); omega) | (intro h1; exfalso; have h4 := h1.2; (try dsimp only at *); omega) | (intro x h1 h2; exact h2.1))
      replace hO := hO.chg gk (by first | (intro x h1 h2; exact h2) | (intro x h1 h2; have h3 : _ = _ := h2; subst h3; assumption) | (intro x h1 h2; have h3 : _ = _ := h2; exfalso; omega) | (intro b h1 h2 h3; have h4 : _ = _ := h3; (try dsimp only at h2); exfalso; omega) | (intro h1; have h2 : _ = _ := h1; exfalso; omega) | (intros; exfalso; (try dsimp only at *); omega) | (intro h1; exfalso; have h4 := h1.2; (try dsimp only at *); omega) | (intro x h1 h2; exact h2.1))
      replace hd_21 := hd_21.chg gk (by first | (intro x h1 h2; exact h2) | (intro x h1 h2; have h3 : _ = _ := h2; subst h3; assumption) | (intro x h1 h2; have h3 : _ = _ := h2; exfalso; omega) | (intro b h1 h2 h3; have h4 : _ = _ := h3; (try dsimp only at h2); exfalso; omega) | (intro h1; have h2 : _ = _ := h1; exfalso; omega) | (intros; exfalso; (try dsimp only at *); omega) | (intro h1; exfalso; have h4 := h1.2; (try dsimp only at *); omega) | (intro x h1 h2; exact h2.1))
      have hI : Sp2 (fun b => (w.heap.size ≤ b ∧ b ≠ g_1 ∧ b ≠ g_2) ∧ b ≠ g3) _ (some ⟨g12, 0, none⟩) (x.dead.length + 2) x.dead := ⟨⟨g12, rfl, hS12, hI0⟩, rfl⟩
      refine WL.nil (WX.one ⟨hd_21, ?_⟩)
      refine ⟨?_, trivial, trivial, trivial, trivial⟩
      refine DT.step [(30, _), (46, _)] rfl ⟨rfl, rfl, trivial⟩ rfl (fun wq_47 kq_47 => ?_)
      have zs_kq_47 := kq_47.size
      replace hb1 := hb1.pure kq_47
      replace hb2 := hb2.pure kq_47
      replace hb3 := hb3.pure kq_47
      replace h := h.pure kq_47
      replace hw := hw.pure kq_47
      replace hO := hO.pure kq_47
      replace hd_21 := hd_21.pure kq_47
      replace hI := hI.pure kq_47
      refine WL.bld rfl (bld_65_0_1 _ _ _ _) rfl (?_)
      refine WL.nil (WX.one ⟨hd_21, ?_⟩)
      refine ⟨?_, trivial, trivial, trivial⟩
      refine DT.step [(47, _)] rfl ⟨rfl, trivial⟩ rfl (fun wq_48 kq_48 => ?_)
      have zs_kq_48 := kq_48.size
      replace hb1 := hb1.pure kq_48
      replace hb2 := hb2.pure kq_48
      replace hb3 := hb3.pure kq_48
      replace h := h.pure kq_48
      replace hw := hw.pure kq_48
      replace hO := hO.pure kq_48
      replace hd_21 := hd_21.pure kq_48
      replace hI := hI.pure kq_48
      refine WL.build (e := esn) [⟨x.txg, some ⟨g12, 0, none⟩, x.dead.length + 2, x.dead⟩] Try.underlying31 Try.sizeOf65 Try.zeroValue65 rfl rfl rfl (by first | (simp [Value.cells]; done) | (simp [Value.cells] <;> rfl) | (simp [Value.cells, eb, ei, es, ebool, e32, e64]; done)) (by decide) rfl ?_
      intro a_hq w_hq hq l_hq z_hq k_hq
      have zs_k_hq := k_hq.size
      replace hb1 := hb1.pure k_hq
      replace hb2 := hb2.pure k_hq
      replace hb3 := hb3.pure k_hq
      replace h := h.pure k_hq
      replace hw := hw.pure k_hq
      replace hO := hO.pure k_hq
      replace hd_21 := hd_21.pure k_hq
      replace hI := hI.pure k_hq
      refine WL.nil (WX.one ⟨hd_21, ?_⟩)
      refine ⟨?_, trivial, trivial⟩
      refine DT.step [(24, _), (48, _)] rfl ⟨rfl, rfl, trivial⟩ rfl (fun wq_49 kq_49 => ?_)
      have zs_kq_49 := kq_49.size
      replace hb1 := hb1.pure kq_49
      replace hb2 := hb2.pure kq_49
      replace hb3 := hb3.pure kq_49
      replace h := h.pure kq_49
      replace hw := hw.pure kq_49
      replace hO := hO.pure kq_49
      replace hd_21 := hd_21.pure kq_49
      replace hI := hI.pure kq_49
      replace hq := hq.pure kq_49
      refine WL.append (e := esn) (S := fun b => (w.heap.size ≤ b ∧ b ≠ g_1 ∧ b ≠ g_2) ∧ b ≠ g3) info_65 rfl Try.underlying31 rfl rfl (hO.snaps.mono (fun b hb => hb.1)) (hq.rsl.src Try.underlying31) (by show (sn2.length + 1) * 32 ≤ _ ∧ sn2.length + 1 ≤ _; constructor <;> omega) (fun x hx => by omega) rfl ?_
      intro as9 cs9 w8 hR8 gg8 n8
      have hO8 := (hO.mono (S' := fun b => (w.heap.size ≤ b ∧ b ≠ g_1 ∧ b ≠ g_2) ∧ b ≠ g3) (fun b hb => hb.1)).push hI hR8 gg8
      have gk8 := gg8.chg.mono (fun x _ hx => hx.2)
      have zs_gk8 := gk8.size
      replace hb1 := hb1.chg gk8 (by first | (intro x h1 h2; exact h2) | (intro x h1 h2; have h3 : _ = _ := h2; subst h3; assumption) | (intro x h1 h2; have h3 : _ = _ := h2; exfalso; omega) | (intro b h1 h2 h3; have h4 : _ = _ := h3; (try dsimp only at h2); exfalso; omega) | (intro h1; have h2 : _ = _ := h1; exfalso; omega) | (intros; exfalso; (try dsimp only at *); omega) | (intro h1; exfalso; have h4 := h1.2; (try dsimp only at *); omega) | (intro x h1 h2; exact h2.1))
      replace hb2 := hb2.chg gk8 (by first | (intro x h1 h2; exact h2) | (intro x h1 h2; have h3 : _ = _ := h2; subst h3; assumption) | (intro x h1 h2; have h3 : _ = _ := h2; exfalso; omega) | (intro b h1 h2 h3; have h4 : _ = _ := h3; (try dsimp only at h2); exfalso; omega) | (intro h1; have h2 : _ = _ := h1; exfalso; omega) | (intros; exfalso; (try dsimp only at *); omega) | (intro h1; exfalso; have h4 := h1.2; (try dsimp only at *); omega) | (intro x h1 h2; exact h2.1))
      replace hb3 := hb3.chg gk8 (by first | (intro x h1 h2; exact h2) | (intro x h1 h2; have h3 : _ = _ := h2; subst h3; assumption) | (intro x h1 h2; have h3 : _ = _ := h2; exfalso; omega) | (intro b h1 h2 h3; have h4 : _ = _ := h3; (try dsimp only at h2); exfalso; omega) | (intro h1; have h2 : _ = _ := h1; exfalso; omega) | (intros; exfalso; (try dsimp only at *); omega) | (intro h1; exfalso; have h4 := h1.2; (try dsimp only at *); omega) | (intro x h1 h2; exact h2.1))
      replace h := h.chg gk8 (by first | (intro x h1 h2; exact h2) | (intro x h1 h2; have h3 : _ = _ := h2; subst h3; assumption) | (intro x h1 h2; have h3 : _ = _ := h2; exfalso; omega) | (intro b h1 h2 h3; have h4 : _ = _ := h3; (try dsimp only at h2); exfalso; omega) | (intro h1; have h2 : _ = _ := h1; exfalso; omega) | (intros; exfalso; (try dsimp only at *); omega) | (intro h1; exfalso; have h4 := h1.2; (try dsimp only at *); omega) | (intro x h1 h2; exact h2.1))
      replace hw := hw.chg gk8 (by first | (intro x h1 h2; exact h2) | (intro x h1 h2; have h3 : _ = _ := h2; subst h3; assumption) | (intro x h1 h2; have h3 : _ = _ := h2; exfalso; omega) | (intro b h1 h2 h3; have h4 : _ = _ := h3; (try dsimp only at h2); exfalso; omega) | (intro h1; have h2 : _ = _ := h1; exfalso; omega) | (intros; exfalso; (try dsimp only at *); omega) | (intro h1; exfalso; have h4 := h1.2; (try dsimp only at *); omega) | (intro x h1 h2; exact h2.1))
      replace hd_21 := hd_21.chg gk8 (by first | (intro x h1 h2; exact h2) | (intro x h1 h2; have h3 : _ = _ := h2; subst h3; assumption) | (intro x h1 h2; have h3 : _ = _ := h2; exfalso; omega) | (intro b h1 h2 h3; have h4 : _ = _ := h3; (try dsimp only at h2); exfalso; omega) | (intro h1; have h2 : _ = _ := h1; exfalso; omega) | (intros; exfalso; (try dsimp only at *); omega) | (intro h1; exfalso; have h4 := h1.2; (try dsimp only at *); omega) | (intro x h1 h2; exact h2.1))
      refine WL.nil (WX.one ⟨hd_21, ?_⟩)
      refine ⟨?_, trivial⟩
      refine DT.step [(50, _), (49, _)] rfl ⟨rfl, rfl, trivial⟩ rfl (fun wq_50 kq_50 => ?_)
      have zs_kq_50 := kq_50.size
      replace hb1 := hb1.pure kq_50
      replace hb2 := hb2.pure kq_50
      replace hb3 := hb3.pure kq_50
      replace h := h.pure kq_50
      replace hw := hw.pure kq_50
      replace hd_21 := hd_21.pure kq_50
      replace hO8 := hO8.pure kq_50
      refine WL.store Try.sizeOf31 hb3 rfl rfl rfl rfl ?_
      intro w_51 hs_51 hn_51 k_51
      have zs_k_51 := k_51.size
      replace hb1 := hb1.chg k_51 (by first | (intro x h1 h2; exact h2) | (intro x h1 h2; have h3 : _ = _ := h2; subst h3; assumption) | (intro x h1 h2; have h3 : _ = _ := h2; exfalso; omega) | (intro b h1 h2 h3; have h4 : _ = _ := h3; (try dsimp only at h2); exfalso; omega) | (intro h1; have h2 : _ = _ := h1; exfalso; omega) | (intros; exfalso; (try dsimp only at *); omega) | (intro h1; exfalso; have h4 := h1.2; (try dsimp only at *); omega) | (intro x h1 h2; exact h2.1))
      replace hb2 := hb2.chg k_51 (by first | (intro x h1 h2; exact h2) | (intro x h1 h2; have h3 : _ = _ := h2; subst h3; assumption) | (intro x h1 h2; have h3 : _ = _ := h2; exfalso; omega) | (intro b h1 h2 h3; have h4 : _ = _ := h3; (try dsimp only at h2); exfalso; omega) | (intro h1; have h2 : _ = _ := h1; exfalso; omega) | (intros; exfalso; (try dsimp only at *); omega) | (intro h1; exfalso; have h4 := h1.2; (try dsimp only at *); omega) | (intro x h1 h2; exact h2.1))
      replace h := h.chg k_51 (by first | (intro x h1 h2; exact h2) | (intro x h1 h2; have h3 : _ = _ := h2; subst h3; assumption) | (intro x h1 h2; have h3 : _ = _ := h2; exfalso; omega) | (intro b h1 h2 h3; have h4 : _ = _ := h3; (try dsimp only at h2); exfalso; omega) | (intro h1; have h2 : _ = _ := h1; exfalso; omega) | (intros; exfalso; (try dsimp only at *); omega) | (intro h1; exfalso; have h4 := h1.2; (try dsimp only at *); omega) | (intro x h1 h2; exact h2.1))
      replace hw := hw.chg k_51 (by first | (intro x h1 h2; exact h2) | (intro x h1 h2; have h3 : _ = _ := h2; subst h3; assumption) | (intro x h1 h2; have h3 : _ = _ := h2; exfalso; omega) | (intro b h1 h2 h3; have h4 : _ = _ := h3; (try dsimp only at h2); exfalso; omega) | (intro h1; have h2 : _ = _ := h1; exfalso; omega) | (intros; exfalso; (try dsimp only at *); omega) | (intro h1; exfalso; have h4 := h1.2; (try dsimp only at *); omega) | (intro x h1 h2; exact h2.1))
      replace hd_21 := hd_21.chg k_51 (by first | (intro x h1 h2; exact h2) | (intro x h1 h2; have h3 : _ = _ := h2; subst h3; assumption) | (intro x h1 h2; have h3 : _ = _ := h2; exfalso; omega) | (intro b h1 h2 h3; have h4 : _ = _ := h3; (try dsimp only at h2); exfalso; omega) | (intro h1; have h2 : _ = _ := h1; exfalso; omega) | (intros; exfalso; (try dsimp only at *); omega) | (intro h1; exfalso; have h4 := h1.2; (try dsimp only at *); omega) | (intro x h1 h2; exact h2.1))
      replace hO8 := hO8.chg k_51 (by first | (intro x h1 h2; exact h2) | (intro x h1 h2; have h3 : _ = _ := h2; subst h3; assumption) | (intro x h1 h2; have h3 : _ = _ := h2; exfalso; omega) | (intro b h1 h2 h3; have h4 : _ = _ := h3; (try dsimp only at h2); exfalso; omega) | (intro h1; have h2 : _ = _ := h1; exfalso; omega) | (intros; exfalso; (try dsimp only at *); omega) | (intro h1; exfalso; have h4 := h1.2; (try dsimp only at *); omega) | (intro x h1 h2; exact h2.1))
      replace hb3 := hn_51
      refine WL.nil (WX.one0 (v := undef) ⟨hd_21, ?_⟩)
      refine DT.done (fun we_52 ke_52 => ?_) _
      have zs_ke_52 := ke_52.size
      replace hb1 := hb1.pure ke_52
      replace hb2 := hb2.pure ke_52
      replace hb3 := hb3.pure ke_52
      replace h := h.pure ke_52
      replace hw := hw.pure ke_52
      replace hd_21 := hd_21.pure ke_52
      replace hO8 := hO8.pure ke_52
      rotate_left
      refine DT.step [(39, _), (45, _)] rfl ⟨rfl, rfl, trivial⟩ rfl (fun wq_45 kq_45 => ?_)
      have zs_kq_45 := kq_45.size
      replace hb1 := hb1.pure kq_45
      replace hb2 := hb2.pure kq_45
      replace hb3 := hb3.pure kq_45
      replace h := h.pure kq_45
      replace hw := hw.pure kq_45
      replace hO := hO.pure kq_45
      replace hd_21 := hd_21.pure kq_45
      replace hm := hm.pure kq_45
      refine WL.appendB (e := ept) (ys := x.dead) info_27 Try.underlying23 rfl rfl hm (by rw [List.length_replicate]) ((h.inner x hxm).src Try.underlying23) (by omega) rfl ?_
      intro w9 hI0 gk n9
      rw [app2] at hI0
      rw [Nat.zero_add x.dead.length]
      have zs_gk := gk.size
      replace hb1 := hb1.chg gk (by first | (intro x h1 h2; exact h2) | (intro x h1 h2; have h3 : _ = _ := h2; subst h3; assumption) | (intro x h1 h2; have h3 : _ = _ := h2; exfalso; omega) | (intro b h1 h2 h3; have h4 : _ = _ := h3; (try dsimp only at h2); exfalso; omega) | (intro h1; have h2 : _ = _ := h1; exfalso; omega) | (intros; exfalso; (try dsimp only at *); omega) | (intro h1; exfalso; have h4 := h1.2; (try dsimp only at *); omega) | (intro x h1 h2; exact h2.1))
      replace hb2 := hb2.chg gk (by first | (intro x h1 h2; exact h2) | (intro x h1 h2; have h3 : _ = _ := h2; subst h3; assumption) | (intro x h1 h2; have h3 : _ = _ := h2; exfalso; omega) | (intro b h1 h2 h3; have h4 : _ = _ := h3; (try dsimp only at h2); exfalso; omega) | (intro h1; have h2 : _ = _ := h1; exfalso; omega) | (intros; exfalso; (try dsimp only at *); omega) | (intro h1; exfalso; have h4 := h1.2; (try dsimp only at *); omega) | (intro x h1 h2; exact h2.1))
      replace hb3 := hb3.chg gk (by first | (intro x h1 h2; exact h2) | (intro x h1 h2; have h3 : _ = _ := h2; subst h3; assumption) | (intro x h1 h2; have h3 : _ = _ := h2; exfalso; omega) | (intro b h1 h2 h3; have h4 : _ = _ := h3; (try dsimp only at h2); exfalso; omega) | (intro h1; have h2 : _ = _ := h1; exfalso; omega) | (intros; exfalso; (try dsimp only at *); omega) | (intro h1; exfalso; have h4 := h1.2; (try dsimp only at *); omega) | (intro x h1 h2; exact h2.1))
      replace h := h.chg gk (by first | (intro x h1 h2; exact h2) | (intro x h1 h2; have h3 : _ = _ := h2; subst h3; assumption) | (intro x h1 h2; have h3 : _ = _ := h2; exfalso; omega) | (intro b h1 h2 h3; have h4 : _ = _ := h3; (try dsimp only at h2); exfalso; omega) | (intro h1; have h2 : _ = _ := h1; exfalso; omega) | (intros; exfalso; (try dsimp only at *); omega) | (intro h1; exfalso; have h4 := h1.2; (try dsimp only at *); omega) | (intro x h1 h2; exact h2.1))
      replace hw := hw.chg gk (by first | (intro x h1 h2; exact h2) | (intro x h1 h2; have h3 : _ = _ := h2; subst h3; assumption) | (intro x h1 h2; have h3 : _ = _ := h2; exfalso; omega) | (intro b h1 h2 h3; have h4 : _ = _ := h3; (try dsimp only at h2); exfalso; omega) | (intro h1; have h2 : _ = _ := h1; exfalso; omega) | (intros; exfalso; (try dsimp only at *); omega) | (intro h1; exfalso; have h4 := h1.2; (try dsimp only at *); omega) | (intro x h1 h2; exact h2.1))
      replace hO := hO.chg gk (by first | (intro x h1 h2; exact h2) | (intro x h1 h2; have h3 : _ = _ := h2; subst h3; assumption) | (intro x h1 h2; have h3 : _ = _ := h2; exfalso; omega) | (intro b h1 h2 h3; have h4 : _ = _ := h3; (try dsimp only at h2); exfalso; omega) | (intro h1; have h2 : _ = _ := h1; exfalso; omega) | (intros; exfalso; (try dsimp only at *); omega) | (intro h1; exfalso; have h4 := h1.2; (try dsimp only at *); omega) | (intro x h1 h2; exact h2.1))
      replace hd_21 := hd_21.chg gk (by first | (intro x h1 h2; exact h2) | (intro x h1 h2; have h3 : _ = _ := h2; subst h3; assumption) | (intro x h1 h2; have h3 : _ = _ := h2; exfalso; omega) | (intro b h1 h2 h3; have h4 : _ = _ := h3; (try dsimp only at h2); exfalso; omega) | (intro h1; have h2 : _ = _ := h1; exfalso; omega) | (intros; exfalso; (try dsimp only at *); omega) | (intro h1; exfalso; have h4 := h1.2; (try dsimp only at *); omega) | (intro x h1 h2; exact h2.1))
      have hI : Sp2 (fun b => (w.heap.size ≤ b ∧ b ≠ g_1 ∧ b ≠ g_2) ∧ b ≠ g3) _ (some ⟨g12, 0, none⟩) (x.dead.length + 2) x.dead := ⟨⟨g12, rfl, hS12, hI0⟩, rfl⟩
      refine WL.nil (WX.one ⟨hd_21, ?_⟩)
      refine ⟨?_, ?_, trivial, trivial, trivial, trivial⟩
      refine DT.step [(23, _)] rfl ⟨rfl, trivial⟩ rfl (fun wq_46 kq_46 => ?_)
      have zs_kq_46 := kq_46.size
      replace hb1 := hb1.pure kq_46
      replace hb2 := hb2.pure kq_46
      replace hb3 := hb3.pure kq_46
      replace h := h.pure kq_46
      replace hw := hw.pure kq_46
      replace hO := hO.pure kq_46
      replace hd_21 := hd_21.pure kq_46
      replace hI := hI.pure kq_46
      refine WL.loadB Try.isAgg31 hb3 rfl rfl rfl (?_)
      refine WL.nil (WX.one ⟨hd_21, ?_⟩)
      refine ⟨?_, trivial, trivial, trivial, trivial⟩
      refine DT.step [(30, _), (46, _)] rfl ⟨rfl, rfl, trivial⟩ rfl (fun wq_47 kq_47 => ?_)
      have zs_kq_47 := kq_47.size
      replace hb1 := hb1.pure kq_47
      replace hb2 := hb2.pure kq_47
      replace hb3 := hb3.pure kq_47
      replace h := h.pure kq_47
      replace hw := hw.pure kq_47
      replace hO := hO.pure kq_47
      replace hd_21 := hd_21.pure kq_47
      replace hI := hI.pure kq_47
      refine WL.bld rfl (bld_65_0_1 _ _ _ _) rfl (?_)
      refine WL.nil (WX.one ⟨hd_21, ?_⟩)
      refine ⟨?_, trivial, trivial, trivial⟩
      refine DT.step [(47, _)] rfl ⟨rfl, trivial⟩ rfl (fun wq_48 kq_48 => ?_)
      have zs_kq_48 := kq_48.size
      replace hb1 := hb1.pure kq_48
      replace hb2 := hb2.pure kq_48
      replace hb3 := hb3.pure kq_48
      replace h := h.pure kq_48
      replace hw := hw.pure kq_48
      replace hO := hO.pure kq_48
      replace hd_21 := hd_21.pure kq_48
      replace hI := hI.pure kq_48
      refine WL.build (e := esn) [⟨x.txg, some ⟨g12, 0, none⟩, x.dead.length + 2, x.dead⟩] Try.underlying31 Try.sizeOf65 Try.zeroValue65 rfl rfl rfl (by first | (simp [Value.cells]; done) | (simp [Value.cells] <;> rfl) | (simp [Value.cells, eb, ei, es, ebool, e32, e64]; done)) (by decide) rfl ?_
      intro a_hq w_hq hq l_hq z_hq k_hq
      have zs_k_hq := k_hq.size
      replace hb1 := hb1.pure k_hq
      replace hb2 := hb2.pure k_hq
      replace hb3 := hb3.pure k_hq
      replace h := h.pure k_hq
      replace hw := hw.pure k_hq
      replace hO := hO.pure k_hq
      replace hd_21 := hd_21.pure k_hq
      replace hI := hI.pure k_hq
      refine WL.nil (WX.one ⟨hd_21, ?_⟩)
      refine ⟨?_, trivial, trivial⟩
      refine DT.step [(24, _), (48, _)] rfl ⟨rfl, rfl, trivial⟩ rfl (fun wq_49 kq_49 => ?_)
      have zs_kq_49 := kq_49.size
      replace hb1 := hb1.pure kq_49
      replace hb2 := hb2.pure kq_49
      replace hb3 := hb3.pure kq_49
      replace h := h.pure kq_49
      replace hw := hw.pure kq_49
      replace hO := hO.pure kq_49
      replace hd_21 := hd_21.pure kq_49
      replace hI := hI.pure kq_49
      replace hq := hq.pure kq_49
      refine WL.append (e := esn) (S := fun b => (w.heap.size ≤ b ∧ b ≠ g_1 ∧ b ≠ g_2) ∧ b ≠ g3) info_65 rfl Try.underlying31 rfl rfl (hO.snaps.mono (fun b hb => hb.1)) (hq.rsl.src Try.underlying31) (by show (sn2.length + 1) * 32 ≤ _ ∧ sn2.length + 1 ≤ _; constructor <;> omega) (fun x hx => by omega) rfl ?_
      intro as9 cs9 w8 hR8 gg8 n8
      have hO8 := (hO.mono (S' := fun b => (w.heap.size ≤ b ∧ b ≠ g_1 ∧ b ≠ g_2) ∧ b ≠ g3) (fun b hb => hb.1)).push hI hR8 gg8
      have gk8 := gg8.chg.mono (fun x _ hx => hx.2)
      have zs_gk8 := gk8.size
      replace hb1 := hb1.chg gk8 (by first | (intro x h1 h2; exact h2) | (intro x h1 h2; have h3 : _ = _ := h2; subst h3; assumption) | (intro x h1 h2; have h3 : _ = _ := h2; exfalso; omega) | (intro b h1 h2 h3; have h4 : _ = _ := h3; (try dsimp only at h2); exfalso; omega) | (intro h1; have h2 : _ = _ := h1; exfalso; omega) | (intros; exfalso; (try dsimp only at *); omega) | (intro h1; exfalso; have h4 := h1.2; (try dsimp only at *); omega) | (intro x h1 h2; exact h2.1))
      replace hb2 := hb2.chg gk8 (by first | (intro x h1 h2; exact h2) | (intro x h1 h2; have h3 : _ = _ := h2; subst h3; assumption) | (intro x h1 h2; have h3 : _ = _ := h2; exfalso; omega) | (intro b h1 h2 h3; have h4 : _ = _ := h3; (try dsimp only at h2); exfalso; omega) | (intro h1; have h2 : _ = _ := h1; exfalso; omega) | (intros; exfalso; (try dsimp only at *); omega) | (intro h1; exfalso; have h4 := h1.2; (try dsimp only at *); omega) | (intro x h1 h2; exact h2.1))
      replace hb3 := hb3.chg gk8 (by first | (intro x h1 h2; exact h2) | (intro x h1 h2; have h3 : _ = _ := h2; subst h3; assumption) | (intro x h1 h2; have h3 : _ = _ := h2; exfalso; omega) | (intro b h1 h2 h3; have h4 : _ = _ := h3; (try dsimp only at h2); exfalso; omega) | (intro h1; have h2 : _ = _ := h1; exfalso; omega) | (intros; exfalso; (try dsimp only at *); omega) | (intro h1; exfalso; have h4 := h1.2; (try dsimp only at *); omega) | (intro x h1 h2; exact h2.1))
      replace h := h.chg gk8 (by first | (intro x h1 h2; exact h2) | (intro x h1 h2; have h3 : _ = _ := h2; subst h3; assumption) | (intro x h1 h2; have h3 : _ = _ := h2; exfalso; omega) | (intro b h1 h2 h3; have h4 : _ = _ := h3; (try dsimp only at h2); exfalso; omega) | (intro h1; have h2 : _ = _ := h1; exfalso; omega) | (intros; exfalso; (try dsimp only at *); omega) | (intro h1; exfalso; have h4 := h1.2; (try dsimp only at *); omega) | (intro x h1 h2; exact h2.1))
      replace hw := hw.chg gk8 (by first | (intro x h1 h2; exact h2) | (intro x h1 h2; have h3 : _ = _ := h2; subst h3; assumption) | (intro x h1 h2; have h3 : _ = _ := h2; exfalso; omega) | (intro b h1 h2 h3; have h4 : _ = _ := h3; (try dsimp only at h2); exfalso; omega) | (intro h1; have h2 : _ = _ := h1; exfalso; omega) | (intros; exfalso; (try dsimp only at *); omega) | (intro h1; exfalso; have h4 := h1.2; (try dsimp only at *); omega) | (intro x h1 h2; exact h2.1))
      replace hd_21 := hd_21.chg gk8 (by first | (intro x h1 h2; exact h2) | (intro x h1 h2; have h3 : _ = _ := h2; subst h3; assumption) | (intro x h1 h2; have h3 : _ = _ := h2; exfalso; omega) | (intro b h1 h2 h3; have h4 : _ = _ := h3; (try dsimp only at h2); exfalso; omega) | (intro h1; have h2 : _ = _ := h1; exfalso; omega) | (intros; exfalso; (try dsimp only at *); omega) | (intro h1; exfalso; have h4 := h1.2; (try dsimp only at *); omega) | (intro x h1 h2; exact h2.1))
      refine WL.nil (WX.one ⟨hd_21, ?_⟩)
      refine ⟨?_, trivial⟩
      refine DT.step [(50, _), (49, _)] rfl ⟨rfl, rfl, trivial⟩ rfl (fun wq_50 kq_50 => ?_)
      have zs_kq_50 := kq_50.size
      replace hb1 := hb1.pure kq_50
      replace hb2 := hb2.pure kq_50
      replace hb3 := hb3.pure kq_50
      replace h := h.pure kq_50
      replace hw := hw.pure kq_50
      replace hd_21 := hd_21.pure kq_50
      replace hO8 := hO8.pure kq_50
      refine WL.store Try.sizeOf31 hb3 rfl rfl rfl rfl ?_
      intro w_51 hs_51 hn_51 k_51
      have zs_k_51 := k_51.size
      replace hb1 := hb1.chg k_51 (by first | (intro x h1 h2; exact h2) | (intro x h1 h2; have h3 : _ = _ := h2; subst h3; assumption) | (intro x h1 h2; have h3 : _ = _ := h2; exfalso; omega) | (intro b h1 h2 h3; have h4 : _ = _ := h3; (try dsimp only at h2); exfalso; omega) | (intro h1; have h2 : _ = _ := h1; exfalso; omega) | (intros; exfalso; (try dsimp only at *); omega) | (intro h1; exfalso; have h4 := h1.2; (try dsimp only at *); omega) | (intro x h1 h2; exact h2.1))
      replace hb2 := hb2.chg k_51 (by first | (intro x h1 h2; exact h2) | (intro x h1 h2; have h3 : _ = _ := h2; subst h3; assumption) | (intro x h1 h2; have h3 : _ = _ := h2; exfalso; omega) | (intro b h1 h2 h3; have h4 : _ = _ := h3; (try dsimp only at h2); exfalso; omega) | (intro h1; have h2 : _ = _ := h1; exfalso; omega) | (intros; exfalso; (try dsimp only at *); omega) | (intro h1; exfalso; have h4 := h1.2; (try dsimp only at *); omega) | (intro x h1 h2; exact h2.1))
      replace h := h.chg k_51 (by first | (intro x h1 h2; exact h2) | (intro x h1 h2; have h3 : _ = _ := h2; subst h3; assumption) | (intro x h1 h2; have h3 : _ = _ := h2; exfalso; omega) | (intro b h1 h2 h3; have h4 : _ = _ := h3; (try dsimp only at h2); exfalso; omega) | (intro h1; have h2 : _ = _ := h1; exfalso; omega) | (intros; exfalso; (try dsimp only at *); omega) | (intro h1; exfalso; have h4 := h1.2; (try dsimp only at *); omega) | (intro x h1 h2; exact h2.1))
      replace hw := hw.chg k_51 (by first | (intro x h1 h2; exact h2) | (intro x h1 h2; have h3 : _ = _ := h2; subst h3; assumption) | (intro x h1 h2; have h3 : _ = _ := h2; exfalso; omega) | (intro b h1 h2 h3; have h4 : _ = _ := h3; (try dsimp only at h2); exfalso; omega) | (intro h1; have h2 : _ = _ := h1; exfalso; omega) | (intros; exfalso; (try dsimp only at *); omega) | (intro h1; exfalso; have h4 := h1.2; (try dsimp only at *); omega) | (intro x h1 h2; exact h2.1))
      replace hd_21 := hd_21.chg k_51 (by first | (intro x h1 h2; exact h2) | (intro x h1 h2; have h3 : _ = _ := h2; subst h3; assumption) | (intro x h1 h2; have h3 : _ = _ := h2; exfalso; omega) | (intro b h1 h2 h3; have h4 : _ = _ := h3; (try dsimp only at h2); exfalso; omega) | (intro h1; have h2 : _ = _ := h1; exfalso; omega) | (intros; exfalso; (try dsimp only at *); omega) | (intro h1; exfalso; have h4 := h1.2; (try dsimp only at *); omega) | (intro x h1 h2; exact h2.1))
      replace hO8 := hO8.chg k_51 (by first | (intro x h1 h2; exact h2) | (intro x h1 h2; have h3 : _ = _ := h2; subst h3; assumption) | (intro x h1 h2; have h3 : _ = _ := h2; exfalso; omega) | (intro b h1 h2 h3; have h4 : _ = _ := h3; (try dsimp only at h2); exfalso; omega) | (intro h1; have h2 : _ = _ := h1; exfalso; omega) | (intros; exfalso; (try dsimp only at *); omega) | (intro h1; exfalso; have h4 := h1.2; (try dsimp only at *); omega) | (intro x h1 h2; exact h2.1))
      replace hb3 := hn_51
      refine WL.nil (WX.one0 (v := undef) ⟨hd_21, ?_⟩)
      refine DT.done (fun we_52 ke_52 => ?_) _
      have zs_ke_52 := ke_52.size
      replace hb1 := hb1.pure ke_52
      replace hb2 := hb2.pure ke_52
      replace hb3 := hb3.pure ke_52
      replace h := h.pure ke_52
      replace hw := hw.pure ke_52
      replace hd_21 := hd_21.pure ke_52
      replace hO8 := hO8.pure ke_52
      rotate_left
      refine DT.step [(30, _), (46, _)] rfl ⟨rfl, rfl, trivial⟩ rfl (fun wq_46 kq_46 => ?_)
      have zs_kq_46 := kq_46.size
      replace hb1 := hb1.pure kq_46
      replace hb2 := hb2.pure kq_46
      replace hb3 := hb3.pure kq_46
      replace h := h.pure kq_46
      replace hw := hw.pure kq_46
      replace hO := hO.pure kq_46
      replace hd_21 := hd_21.pure kq_46
      replace hI := hI.pure kq_46
      refine WL.bld rfl (bld_65_0_1 _ _ _ _) rfl (?_)
      refine WL.nil (WX.one ⟨hd_21, ?_⟩)
      refine ⟨?_, ?_, trivial, trivial, trivial⟩
      refine DT.step [(23, _)] rfl ⟨rfl, trivial⟩ rfl (fun wq_47 kq_47 => ?_)
      have zs_kq_47 := kq_47.size
      replace hb1 := hb1.pure kq_47
      replace hb2 := hb2.pure kq_47
      replace hb3 := hb3.pure kq_47
      replace h := h.pure kq_47
      replace hw := hw.pure kq_47
      replace hO := hO.pure kq_47
      replace hd_21 := hd_21.pure kq_47
      replace hI := hI.pure kq_47
      refine WL.loadB Try.isAgg31 hb3 rfl rfl rfl (?_)
      refine WL.nil (WX.one ⟨hd_21, ?_⟩)
      refine ⟨?_, trivial, trivial, trivial⟩
      refine DT.step [(47, _)] rfl ⟨rfl, trivial⟩ rfl (fun wq_48 kq_48 => ?_)
      have zs_kq_48 := kq_48.size
      replace hb1 := hb1.pure kq_48
      replace hb2 := hb2.pure kq_48
      replace hb3 := hb3.pure kq_48
      replace h := h.pure kq_48
      replace hw := hw.pure kq_48
      replace hO := hO.pure kq_48
      replace hd_21 := hd_21.pure kq_48
      replace hI := hI.pure kq_48
      refine WL.build (e := esn) [⟨x.txg, some ⟨g12, 0, none⟩, x.dead.length + 2, x.dead⟩] Try.underlying31 Try.sizeOf65 Try.zeroValue65 rfl rfl rfl (by first | (simp [Value.cells]; done) | (simp [Value.cells] <;> rfl) | (simp [Value.cells, eb, ei, es, ebool, e32, e64]; done)) (by decide) rfl ?_
      intro a_hq w_hq hq l_hq z_hq k_hq
      have zs_k_hq := k_hq.size
      replace hb1 := hb1.pure k_hq
      replace hb2 := hb2.pure k_hq
      replace hb3 := hb3.pure k_hq
      replace h := h.pure k_hq
      replace hw := hw.pure k_hq
      replace hO := hO.pure k_hq
      replace hd_21 := hd_21.pure k_hq
      replace hI := hI.pure k_hq
      refine WL.nil (WX.one ⟨hd_21, ?_⟩)
      refine ⟨?_, trivial, trivial⟩
      refine DT.step [(24, _), (48, _)] rfl ⟨rfl, rfl, trivial⟩ rfl (fun wq_49 kq_49 => ?_)
      have zs_kq_49 := kq_49.size
      replace hb1 := hb1.pure kq_49
      replace hb2 := hb2.pure kq_49
      replace hb3 := hb3.pure kq_49
      replace h := h.pure kq_49
      replace hw := hw.pure kq_49
      replace hO := hO.pure kq_49
      replace hd_21 := hd_21.pure kq_49
      replace hI := hI.pure kq_49
      replace hq := hq.pure kq_49
      refine WL.append (e := esn) (S := fun b => (w.heap.size ≤ b ∧ b ≠ g_1 ∧ b ≠ g_2) ∧ b ≠ g3) info_65 rfl Try.underlying31 rfl rfl (hO.snaps.mono (fun b hb => hb.1)) (hq.rsl.src Try.underlying31) (by show (sn2.length + 1) * 32 ≤ _ ∧ sn2.length + 1 ≤ _; constructor <;> omega) (fun x hx => by omega) rfl ?_
      intro as9 cs9 w8 hR8 gg8 n8
      have hO8 := (hO.mono (S' := fun b => (w.heap.size ≤ b ∧ b ≠ g_1 ∧ b ≠ g_2) ∧ b ≠ g3) (fun b hb => hb.1)).push hI hR8 gg8
      have gk8 := gg8.chg.mono (fun x _ hx => hx.2)
      have zs_gk8 := gk8.size
      replace hb1 := hb1.chg gk8 (by first | (intro x h1 h2; exact h2) | (intro x h1 h2; have h3 : _ = _ := h2; subst h3; assumption) | (intro x h1 h2; have h3 : _ = _ := h2; exfalso; omega) | (intro b h1 h2 h3; have h4 : _ = _ := h3; (try dsimp only at h2); exfalso; omega) | (intro h1; have h2 : _ = _ := h1; exfalso; omega) | (intros; exfalso; (try dsimp only at *); omega) | (intro h1; exfalso; have h4 := h1.2; (try dsimp only at *); omega) | (intro x h1 h2; exact h2.1))
      replace hb2 := hb2.chg gk8 (by first | (intro x h1 h2; exact h2) | (intro x h1 h2; have h3 : _ = _ := h2; subst h3; assumption) | (intro x h1 h2; have h3 : _ = _ := h2; exfalso; omega) | (intro b h1 h2 h3; have h4 : _ = _ := h3; (try dsimp only at h2); exfalso; omega) | (intro h1; have h2 : _ = _ := h1; exfalso; omega) | (intros; exfalso; (try dsimp only at *); omega) | (intro h1; exfalso; have h4 := h1.2; (try dsimp only at *); omega) | (intro x h1 h2; exact h2.1))
      replace hb3 := hb3.chg gk8 (by first | (intro x h1 h2; exact h2) | (intro x h1 h2; have h3 : _ = _ := h2; subst h3; assumption) | (intro x h1 h2; have h3 : _ = _ := h2; exfalso; omega) | (intro b h1 h2 h3; have h4 : _ = _ := h3; (try dsimp only at h2); exfalso; omega) | (intro h1; have h2 : _ = _ := h1; exfalso; omega) | (intros; exfalso; (try dsimp only at *); omega) | (intro h1; exfalso; have h4 := h1.2; (try dsimp only at *); omega) | (intro x h1 h2; exact h2.1))
      replace h := h.chg gk8 (by first | (intro x h1 h2; exact h2) | (intro x h1 h2; have h3 : _ = _ := h2; subst h3; assumption) | (intro x h1 h2; have h3 : _ = _ := h2; exfalso; omega) | (intro b h1 h2 h3; have h4 : _ = _ := h3; (try dsimp only at h2); exfalso; omega) | (intro h1; have h2 : _ = _ := h1; exfalso; omega) | (intros; exfalso; (try dsimp only at *); omega) | (intro h1; exfalso; have h4 := h1.2; (try dsimp only at *); omega) | (intro x h1 h2; exact h2.1))
      replace hw := hw.chg gk8 (by first | (intro x h1 h2; exact h2) | (intro x h1 h2; have h3 : _ = _ := h2; subst h3; assumption) | (intro x h1 h2; have h3 : _ = _ := h2; exfalso; omega) | (intro b h1 h2 h3; have h4 : _ = _ := h3; (try dsimp only at h2); exfalso; omega) | (intro h1; have h2 : _ = _ := h1; exfalso; omega) | (intros; exfalso; (try dsimp only at *); omega) | (intro h1; exfalso; have h4 := h1.2; (try dsimp only at *); omega) | (intro x h1 h2; exact h2.1))
      replace hd_21 := hd_21.chg gk8 (by first | (intro x h1 h2; exact h2) | (intro x h1 h2; have h3 : _ = _ := h2; subst h3; assumption) | (intro x h1 h2; have h3 : _ = _ := h2; exfalso; omega) | (intro b h1 h2 h3; have h4 : _ = _ := h3; (try dsimp only at h2); exfalso; omega) | (intro h1; have h2 : _ = _ := h1; exfalso; omega) | (intros; exfalso; (try dsimp only at *); omega) | (intro h1; exfalso; have h4 := h1.2; (try dsimp only at *); omega) | (intro x h1 h2; exact h2.1))
      refine WL.nil (WX.one ⟨hd_21, ?_⟩)
      refine ⟨?_, trivial⟩
      refine DT.step [(50, _), (49, _)] rfl ⟨rfl, rfl, trivial⟩ rfl (fun wq_50 kq_50 => ?_)
      have zs_kq_50 := kq_50.size
      replace hb1 := hb1.pure kq_50
      replace hb2 := hb2.pure kq_50
      replace hb3 := hb3.pure kq_50
      replace h := h.pure kq_50
      replace hw := hw.pure kq_50
      replace hd_21 := hd_21.pure kq_50
      replace hO8 := hO8.pure kq_50
      refine WL.store Try.sizeOf31 hb3 rfl rfl rfl rfl ?_
      intro w_51 hs_51 hn_51 k_51
      have zs_k_51 := k_51.size
      replace hb1 := hb1.chg k_51 (by first | (intro x h1 h2; exact h2) | (intro x h1 h2; have h3 : _ = _ := h2; subst h3; assumption) | (intro x h1 h2; have h3 : _ = _ := h2; exfalso; omega) | (intro b h1 h2 h3; have h4 : _ = _ := h3; (try dsimp only at h2); exfalso; omega) | (intro h1; have h2 : _ = _ := h1; exfalso; omega) | (intros; exfalso; (try dsimp only at *); omega) | (intro h1; exfalso; have h4 := h1.2; (try dsimp only at *); omega) | (intro x h1 h2; exact h2.1))
      replace hb2 := hb2.chg k_51 (by first | (intro x h1 h2; exact h2) | (intro x h1 h2; have h3 : _ = _ := h2; subst h3; assumption) | (intro x h1 h2; have h3 : _ = _ := h2; exfalso; omega) | (intro b h1 h2 h3; have h4 : _ = _ := h3; (try dsimp only at h2); exfalso; omega) | (intro h1; have h2 : _ = _ := h1; exfalso; omega) | (intros; exfalso; (try dsimp only at *); omega) | (intro h1; exfalso; have h4 := h1.2; (try dsimp only at *); omega) | (intro x h1 h2; exact h2.1))
      replace h := h.chg k_51 (by first | (intro x h1 h2; exact h2) | (intro x h1 h2; have h3 : _ = _ := h2; subst h3; assumption) | (intro x h1 h2; have h3 : _ = _ := h2; exfalso; omega) | (intro b h1 h2 h3; have h4 : _ = _ := h3; (try dsimp only at h2); exfalso; omega) | (intro h1; have h2 : _ = _ := h1; exfalso; omega) | (intros; exfalso; (try dsimp only at *); omega) | (intro h1; exfalso; have h4 := h1.2; (try dsimp only at *); omega) | (intro x h1 h2; exact h2.1))
      replace hw := hw.chg k_51 (by first | (intro x h1 h2; exact h2) | (intro x h1 h2; have h3 : _ = _ := h2; subst h3; assumption) | (intro x h1 h2; have h3 : _ = _ := h2; exfalso; omega) | (intro b h1 h2 h3; have h4 : _ = _ := h3; (try dsimp only at h2); exfalso; omega) | (intro h1; have h2 : _ = _ := h1; exfalso; omega) | (intros; exfalso; (try dsimp only at *); omega) | (intro h1; exfalso; have h4 := h1.2; (try dsimp only at *); omega) | (intro x h1 h2; exact h2.1))
      replace hd_21 := hd_21.chg k_51 (by first | (intro x h1 h2; exact h2) | (intro x h1 h2; have h3 : _ = _ := h2; subst h3; assumption) | (intro x h1 h2; have h3 : _ = _ := h2; exfalso; omega) | (intro b h1 h2 h3; have h4 : _ = _ := h3; (try dsimp only at h2); exfalso; omega) | (intro h1; have h2 : _ = _ := h1; exfalso; omega) | (intros; exfalso; (try dsimp only at *); omega) | (intro h1; exfalso; have h4 := h1.2; (try dsimp only at *); omega) | (intro x h1 h2; exact h2.1))
      replace hO8 := hO8.chg k_51 (by first | (intro x h1 h2; exact h2) | (intro x h1 h2; have h3 : _ = _ := h2; subst h3; assumption) | (intro x h1 h2; have h3 : _ = _ := h2; exfalso; omega) | (intro b h1 h2 h3; have h4 : _ = _ := h3; (try dsimp only at h2); exfalso; omega) | (intro h1; have h2 : _ = _ := h1; exfalso; omega) | (intros; exfalso; (try dsimp only at *); omega) | (intro h1; exfalso; have h4 := h1.2; (try dsimp only at *); omega) | (intro x h1 h2; exact h2.1))
      replace hb3 := hn_51
      refine WL.nil (WX.one0 (v := undef) ⟨hd_21, ?_⟩)
      refine DT.done (fun we_52 ke_52 => ?_) _
      have zs_ke_52 := ke_52.size
      replace hb1 := hb1.pure ke_52
      replace hb2 := hb2.pure ke_52
      replace hb3 := hb3.pure ke_52
      replace h := h.pure ke_52
      replace hw := hw.pure ke_52
      replace hd_21 := hd_21.pure ke_52
      replace hO8 := hO8.pure ke_52
      rotate_left
      refine DT.step [(47, _)] rfl ⟨rfl, trivial⟩ rfl (fun wq_47 kq_47 => ?_)
      have zs_kq_47 := kq_47.size
      replace hb1 := hb1.pure kq_47
      replace hb2 := hb2.pure kq_47
      replace hb3 := hb3.pure kq_47
      replace h := h.pure kq_47
      replace hw := hw.pure kq_47
      replace hO := hO.pure kq_47
      replace hd_21 := hd_21.pure kq_47
      replace hI := hI.pure kq_47
      refine WL.build (e := esn) [⟨x.txg, some ⟨g12, 0, none⟩, x.dead.length + 2, x.dead⟩] Try.underlying31 Try.sizeOf65 Try.zeroValue65 rfl rfl rfl (by first | (simp [Value.cells]; done) | (simp [Value.cells] <;> rfl) | (simp [Value.cells, eb, ei, es, ebool, e32, e64]; done)) (by decide) rfl ?_
      intro a_hq w_hq hq l_hq z_hq k_hq
      have zs_k_hq := k_hq.size
      replace hb1 := hb1.pure k_hq
      replace hb2 := hb2.pure k_hq
      replace hb3 := hb3.pure k_hq
      replace h := h.pure k_hq
      replace hw := hw.pure k_hq
      replace hO := hO.pure k_hq
      replace hd_21 := hd_21.pure k_hq
      replace hI := hI.pure k_hq
      refine WL.nil (WX.one ⟨hd_21, ?_⟩)
      refine ⟨?_, trivial, trivial, trivial⟩
      refine DT.step [(23, _)] rfl ⟨rfl, trivial⟩ rfl (fun wq_48 kq_48 => ?_)
      have zs_kq_48 := kq_48.size
      replace hb1 := hb1.pure kq_48
      replace hb2 := hb2.pure kq_48
      replace hb3 := hb3.pure kq_48
      replace h := h.pure kq_48
      replace hw := hw.pure kq_48
      replace hO := hO.pure kq_48
      replace hd_21 := hd_21.pure kq_48
      replace hI := hI.pure kq_48
      replace hq := hq.pure kq_48
      refine WL.loadB Try.isAgg31 hb3 rfl rfl rfl (?_)
      refine WL.nil (WX.one ⟨hd_21, ?_⟩)
      refine ⟨?_, trivial, trivial⟩
      refine DT.step [(24, _), (48, _)] rfl ⟨rfl, rfl, trivial⟩ rfl (fun wq_49 kq_49 => ?_)
      have zs_kq_49 := kq_49.size
      replace hb1 := hb1.pure kq_49
      replace hb2 := hb2.pure kq_49
      replace hb3 := hb3.pure kq_49
      replace h := h.pure kq_49
      replace hw := hw.pure kq_49
      replace hO := hO.pure kq_49
      replace hd_21 := hd_21.pure kq_49
      replace hI := hI.pure kq_49
      replace hq := hq.pure kq_49
      refine WL.append (e := esn) (S := fun b => (w.heap.size ≤ b ∧ b ≠ g_1 ∧ b ≠ g_2) ∧ b ≠ g3) info_65 rfl Try.underlying31 rfl rfl (hO.snaps.mono (fun b hb => hb.1)) (hq.rsl.src Try.underlying31) (by show (sn2.length + 1) * 32 ≤ _ ∧ sn2.length + 1 ≤ _; constructor <;> omega) (fun x hx => by omega) rfl ?_
      intro as9 cs9 w8 hR8 gg8 n8
      have hO8 := (hO.mono (S' := fun b => (w.heap.size ≤ b ∧ b ≠ g_1 ∧ b ≠ g_2) ∧ b ≠ g3) (fun b hb => hb.1)).push hI hR8 gg8
      have gk8 := gg8.chg.mono (fun x _ hx => hx.2)
      have zs_gk8 := gk8.size
      replace hb1 := hb1.chg gk8 (by first | (intro x h1 h2; exact h2) | (intro x h1 h2; have h3 : _ = _ := h2; subst h3; assumption) | (intro x h1 h2; have h3 : _ = _ := h2; exfalso; omega) | (intro b h1 h2 h3; have h4 : _ = _ := h3; (try dsimp only at h2); exfalso; omega) | (intro h1; have h2 : _ = _ := h1; exfalso; omega) | (intros; exfalso; (try dsimp only at *); omega) | (intro h1; exfalso; have h4 := h1.2; (try dsimp only at *); omega) | (intro x h1 h2; exact h2.1))
      replace hb2 := hb2.chg gk8 (by first | (intro x h1 h2; exact h2) | (intro x h1 h2; have h3 : _ = _ := h2; subst h3; assumption) | (intro x h1 h2; have h3 : _ = _ := h2; exfalso; omega) | (intro b h1 h2 h3; have h4 : _ = _ := h3; (try dsimp only at h2); exfalso; omega) | (intro h1; have h2 : _ = _ := h1; exfalso; omega) | (intros; exfalso; (try dsimp only at *); omega) | (intro h1; exfalso; have h4 := h1.2; (try dsimp only at *); omega) | (intro x h1 h2; exact h2.1))
      replace hb3 := hb3.chg gk8 (by first | (intro x h1 h2; exact h2) | (intro x h1 h2; have h3 : _ = _ := h2; subst h3; assumption) | (intro x h1 h2; have h3 : _ = _ := h2; exfalso; omega) | (intro b h1 h2 h3; have h4 : _ = _ := h3; (try dsimp only at h2); exfalso; omega) | (intro h1; have h2 : _ = _ := h1; exfalso; omega) | (intros; exfalso; (try dsimp only at *); omega) | (intro h1; exfalso; have h4 := h1.2; (try dsimp only at *); omega) | (intro x h1 h2; exact h2.1))
      replace h := h.chg gk8 (by first | (intro x h1 h2; exact h2) | (intro x h1 h2; have h3 : _ = _ := h2; subst h3; assumption) | (intro x h1 h2; have h3 : _ = _ := h2; exfalso; omega) | (intro b h1 h2 h3; have h4 : _ = _ := h3; (try dsimp only at h2); exfalso; omega) | (intro h1; have h2 : _ = _ := h1; exfalso; omega) | (intros; exfalso; (try dsimp only at *); omega) | (intro h1; exfalso; have h4 := h1.2; (try dsimp only at *); omega) | (intro x h1 h2; exact h2.1))
      replace hw := hw.chg gk8 (by first | (intro x h1 h2; exact h2) | (intro x h1 h2; have h3 : _ = _ := h2; subst h3; assumption) | (intro x h1 h2; have h3 : _ = _ := h2; exfalso; omega) | (intro b h1 h2 h3; have h4 : _ = _ := h3; (try dsimp only at h2); exfalso; omega) | (intro h1; have h2 : _ = _ := h1; exfalso; omega) | (intros; exfalso; (try dsimp only at *); omega) | (intro h1; exfalso; have h4 := h1.2; (try dsimp only at *); omega) | (intro x h1 h2; exact h2.1))
      replace hd_21 := hd_21.chg gk8 (by first | (intro x h1 h2; exact h2) | (intro x h1 h2; have h3 : _ = _ := h2; subst h3; assumption) | (intro x h1 h2; have h3 : _ = _ := h2; exfalso; omega) | (intro b h1 h2 h3; have h4 : _ = _ := h3; (try dsimp only at h2); exfalso; omega) | (intro h1; have h2 : _ = _ := h1; exfalso; omega) | (intros; exfalso; (try dsimp only at *); omega) | (intro h1; exfalso; have h4 := h1.2; (try dsimp only at *); omega) | (intro x h1 h2; exact h2.1))
      refine WL.nil (WX.one ⟨hd_21, ?_⟩)
      refine ⟨?_, trivial⟩
      refine DT.step [(50, _), (49, _)] rfl ⟨rfl, rfl, trivial⟩ rfl (fun wq_50 kq_50 => ?_)
      have zs_kq_50 := kq_50.size
      replace hb1 := hb1.pure kq_50
      replace hb2 := hb2.pure kq_50
      replace hb3 := hb3.pure kq_50
      replace h := h.pure kq_50
      replace hw := hw.pure kq_50
      replace hd_21 := hd_21.pure kq_50
      replace hO8 := hO8.pure kq_50
      refine WL.store Try.sizeOf31 hb3 rfl rfl rfl rfl ?_
      intro w_51 hs_51 hn_51 k_51
      have zs_k_51 := k_51.size
      replace hb1 := hb1.chg k_51 (by first | (intro x h1 h2; exact h2) | (intro x h1 h2; have h3 : _ = _ := h2; subst h3; assumption) | (intro x h1 h2; have h3 : _ = _ := h2; exfalso; omega) | (intro b h1 h2 h3; have h4 : _ = _ := h3; (try dsimp only at h2); exfalso; omega) | (intro h1; have h2 : _ = _ := h1; exfalso; omega) | (intros; exfalso; (try dsimp only at *); omega) | (intro h1; exfalso; have h4 := h1.2; (try dsimp only at *); omega) | (intro x h1 h2; exact h2.1))
      replace hb2 := hb2.chg k_51 (by first | (intro x h1 h2; exact h2) | (intro x h1 h2; have h3 : _ = _ := h2; subst h3; assumption) | (intro x h1 h2; have h3 : _ = _ := h2; exfalso; omega) | (intro b h1 h2 h3; have h4 : _ = _ := h3; (try dsimp only at h2); exfalso; omega) | (intro h1; have h2 : _ = _ := h1; exfalso; omega) | (intros; exfalso; (try dsimp only at *); omega) | (intro h1; exfalso; have h4 := h1.2; (try dsimp only at *); omega) | (intro x h1 h2; exact h2.1))
      replace h := h.chg k_51 (by first | (intro x h1 h2; exact h2) | (intro x h1 h2; have h3 : _ = _ := h2; subst h3; assumption) | (intro x h1 h2; have h3 : _ = _ := h2; exfalso; omega) | (intro b h1 h2 h3; have h4 : _ = _ := h3; (try dsimp only at h2); exfalso; omega) | (intro h1; have h2 : _ = _ := h1; exfalso; omega) | (intros; exfalso; (try dsimp only at *); omega) | (intro h1; exfalso; have h4 := h1.2; (try dsimp only at *); omega) | (intro x h1 h2; exact h2.1))
      replace hw := hw.chg k_51 (by first | (intro x h1 h2; exact h2) | (intro x h1 h2; have h3 : _ = _ := h2; subst h3; assumption) | (intro x h1 h2; have h3 : _ = _ := h2; exfalso; omega) | (intro b h1 h2 h3; have h4 : _ = _ := h3; (try dsimp only at h2); exfalso; omega) | (intro h1; have h2 : _ = _ := h1; exfalso; omega) | (intros; exfalso; (try dsimp only at *); omega) | (intro h1; exfalso; have h4 := h1.2; (try dsimp only at *); omega) | (intro x h1 h2; exact h2.1))
      replace hd_21 := hd_21.chg k_51 (by first | (intro x h1 h2; exact h2) | (intro x h1 h2; have h3 : _ = _ := h2; subst h3; assumption) | (intro x h1 h2; have h3 : _ = _ := h2; exfalso; omega) | (intro b h1 h2 h3; have h4 : _ = _ := h3; (try dsimp only at h2); exfalso; omega) | (intro h1; have h2 : _ = _ := h1; exfalso; omega) | (intros; exfalso; (try dsimp only at *); omega) | (intro h1; exfalso; have h4 := h1.2; (try dsimp only at *); omega) | (intro x h1 h2; exact h2.1))
      replace hO8 := hO8.chg k_51 (by first | (intro x h1 h2; exact h2) | (intro x h1 h2; have h3 : _ = _ := h2; subst h3; assumption) | (intro x h1 h2; have h3 : _ = _ := h2; exfalso; omega) | (intro b h1 h2 h3; have h4 : _ = _ := h3; (try dsimp only at h2); exfalso; omega) | (intro h1; have h2 : _ = _ := h1; exfalso; omega) | (intros; exfalso; (try dsimp only at *); omega) | (intro h1; exfalso; have h4 := h1.2; (try dsimp only at *); omega) | (intro x h1 h2; exact h2.1))
      replace hb3 := hn_51
      refine WL.nil (WX.one0 (v := undef) ⟨hd_21, ?_⟩)
      refine DT.done (fun we_52 ke_52 => ?_) _
      have zs_ke_52 := ke_52.size
      replace hb1 := hb1.pure ke_52
      replace hb2 := hb2.pure ke_52
      replace hb3 := hb3.pure ke_52
      replace h := h.pure ke_52
      replace hw := hw.pure ke_52
      replace hd_21 := hd_21.pure ke_52
      replace hO8 := hO8.pure ke_52
      rotate_left
      all_goals
        refine WX.block_normal (WX.then_normal (WC.region (WL.move rfl rfl (WL.add64 rfl rfl (by first | omega | (constructor <;> omega)) rfl (WL.assign rfl rfl (WL.nil (?_)))))))
        refine WX.loop_next (i + 1, (as9, cs9, sn2 ++ [(⟨x.txg, some ⟨g12, 0, none⟩, x.dead.length + 2, x.dead⟩ : SnV)])) ⟨rfl, rfl, rfl, rfl, trivial⟩ ⟨by show i + 1 ≤ _; omega, hb1, hb2, hb3, h, hw, hO8, ?_⟩ (by show sn.length - (i + 1) < sn.length - i; omega)
        show sabs (sn2 ++ [⟨x.txg, some ⟨g12, 0, none⟩, x.dead.length + 2, x.dead⟩]) = (sabs sn).take (i + 1)
        rw [List.take_add_one, sabs_at hx, ← hsa]
        simp [sabs]
    ·
      refine WL.nil (WX.then_normal (WC.cond_false rfl (WC.exit (WX.then_exit (WX.then_exit (WX.block_here (WX.then_normal (?_))))))))
      refine WC.seq (WC.region (WL.loadsB Try.isAgg33 Try.sizeOf33 hb3 rfl (by first | (simp; done) | (simp; omega) | rfl) rfl (?_)))
      refine WL.stores Try.sizeOf33 hb2 rfl rfl (by first | (simp; done) | (simp; omega) | rfl) (by first | exact Enc.one _ _ | (intro u hu; obtain ⟨x, _, rfl⟩ := List.mem_map.1 hu; rfl) | (simp [Value.oneCell']; done) | (simp [Value.oneCell', Value.cells]; done)) (by first | (simp; done) | (simp; omega) | (simp [Value.cells]; done) | (simp [Value.cells]; omega) | exact Nat.le_of_ble_eq_true rfl) rfl ?_
      intro w_20 hs_20 hn_20 k_20
      have zs_k_20 := k_20.size
      replace hb1 := hb1.chg k_20 (by first | (intro x h1 h2; exact h2) | (intro x h1 h2; have h3 : _ = _ := h2; subst h3; assumption) | (intro x h1 h2; have h3 : _ = _ := h2; exfalso; omega) | (intro b h1 h2 h3; have h4 : _ = _ := h3; (try dsimp only at h2); exfalso; omega) | (intro h1; have h2 : _ = _ := h1; exfalso; omega) | (intros; exfalso; (try dsimp only at *); omega) | (intro h1; exfalso; have h4 := h1.2; (try dsimp only at *); omega) | (intro x h1 h2; exact h2.1))
      replace hb3 := hb3.chg k_20 (by first | (intro x h1 h2; exact h2) | (intro x h1 h2; have h3 : _ = _ := h2; subst h3; assumption) | (intro x h1 h2; have h3 : _ = _ := h2; exfalso; omega) | (intro b h1 h2 h3; have h4 : _ = _ := h3; (try dsimp only at h2); exfalso; omega) | (intro h1; have h2 : _ = _ := h1; exfalso; omega) | (intros; exfalso; (try dsimp only at *); omega) | (intro h1; exfalso; have h4 := h1.2; (try dsimp only at *); omega) | (intro x h1 h2; exact h2.1))
      replace h := h.chg k_20 (by first | (intro x h1 h2; exact h2) | (intro x h1 h2; have h3 : _ = _ := h2; subst h3; assumption) | (intro x h1 h2; have h3 : _ = _ := h2; exfalso; omega) | (intro b h1 h2 h3; have h4 : _ = _ := h3; (try dsimp only at h2); exfalso; omega) | (intro h1; have h2 : _ = _ := h1; exfalso; omega) | (intros; exfalso; (try dsimp only at *); omega) | (intro h1; exfalso; have h4 := h1.2; (try dsimp only at *); omega) | (intro x h1 h2; exact h2.1))
      replace hw := hw.chg k_20 (by first | (intro x h1 h2; exact h2) | (intro x h1 h2; have h3 : _ = _ := h2; subst h3; assumption) | (intro x h1 h2; have h3 : _ = _ := h2; exfalso; omega) | (intro b h1 h2 h3; have h4 : _ = _ := h3; (try dsimp only at h2); exfalso; omega) | (intro h1; have h2 : _ = _ := h1; exfalso; omega) | (intros; exfalso; (try dsimp only at *); omega) | (intro h1; exfalso; have h4 := h1.2; (try dsimp only at *); omega) | (intro x h1 h2; exact h2.1))
      replace hO := hO.chg k_20 (by first | (intro x h1 h2; exact h2) | (intro x h1 h2; have h3 : _ = _ := h2; subst h3; assumption) | (intro x h1 h2; have h3 : _ = _ := h2; exfalso; omega) | (intro b h1 h2 h3; have h4 : _ = _ := h3; (try dsimp only at h2); exfalso; omega) | (intro h1; have h2 : _ = _ := h1; exfalso; omega) | (intros; exfalso; (try dsimp only at *); omega) | (intro h1; exfalso; have h4 := h1.2; (try dsimp only at *); omega) | (intro x h1 h2; exact h2.1))
      replace hb2 := hn_20
      refine WL.nil (WX.then_normal (WC.ret (?_)))
      refine WX.ret1c (.inl rfl) Try.results10 Try.isAgg33 Try.sizeOf33 hb2 rfl (by first | (simp; done) | (simp; omega) | rfl) ?_
      have hil : i = sn.length := by omega
      subst hil
      refine ⟨_, rfl, ⟨⟨ba, sa2, sc2, sn2, some ⟨g11, 0, none⟩, de.length + 2, de⟩, rfl, hO.mono (fun x hx => hx.1.1), ?_⟩, hw⟩
      show LA.mk ba (sabs sn2) de = LA.mk ba (sabs sn) de
      rw [hsa, List.take_of_length_le (by rw [sabs_len]; omega)]
end Go.Proofs.Ytgmkoieemmglpaa
