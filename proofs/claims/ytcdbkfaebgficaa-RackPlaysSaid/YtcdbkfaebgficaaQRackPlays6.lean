import Derived.Test.YtcdbkfaebgficaaQRackPlays5
namespace Go.Proofs.Ytcdbkfaebgficaa
open Go.RowKit Go.HL

/-- a write lasts -/
def putLast (s : RA) (p : Pl) (b : List UInt8) : RA := { s with last := mput s.last p b }
theorem putLast_ok {s : RA} (h : s.ok) (p : Pl) {b : List UInt8} (hb : b.length = 128) : (putLast s p b).ok :=
  ⟨h.dn, h.sn, h.gl, fun q hq => by
    rcases mput_mem hq with h1 | h1
    · exact h.ll q h1
    · rw [h1]; exact hb, h.lw, h.lf, mput_nodup h.nd⟩
theorem putLast_lf {s : RA} (d a : Int) (hd : 0 ≤ d) (ha : 0 ≤ a) (b : List UInt8) (d' a' : Nat) : lf (putLast s (d, a) b) d' a' = if d' = d.toNat ∧ a' = a.toNat then bs b else lf s d' a' := by
  rw [lf, lf, lastS, lastS, show (putLast s (d, a) b).last = mput s.last (d, a) b from rfl, mget_put]
  by_cases h : d' = d.toNat ∧ a' = a.toNat
  · rw [if_pos h, if_pos (show ((d' : Int), (a' : Int)) = (d, a) from Prod.ext (by show (d' : Int) = d; omega) (by show (a' : Int) = a; omega))]
    rfl
  · rw [if_neg h, if_neg (fun e => h (by
      injection e with e1 e2
      exact ⟨by omega, by omega⟩))]
set_option maxHeartbeats 1000000 in
theorem dLast_calls {A : Nat → Prop} {w : World} {D : Nat} {s : RA} (h : RD A w D s) {d a : Int} (hi : inS s d a) {b : List UInt8} (hb : b.length = 128) :
    Calls Try.prog 35 [ptr D, .agg #[vi d, vi a, .string (bs b)]].toArray w (Ret fun v w' => v = .tuple #[] ∧ RD A w' D (putLast s (d, a) b) ∧ Chg A w w') := by
  have aD := h.aD
  have hok := h.ok
  have hwin := h.win
  replace h := h.old
  have hDw := h.lt
  obtain ⟨la, lc, ls, ga, gc, wa, wc, hB, hI⟩ := h.ex
  have hlen := hI.ld.len
  have hd0 := hi.1
  have hd1 := hi.2.1
  have ha0 := hi.2.2.1
  have ha1 := hi.2.2.2
  have hw := Chg.refl A w
  refine Calls.of_WC Try.func35 rfl Try.ntmps35 (by simp) ?_
  refine WC.seq (WC.region (?_))
  refine WL.box rfl rfl ?_
  intro g_1 w_1 hge_1 hlt_1 hb_1 k_1
  have zs_k_1 := k_1.size
  replace hB := hB.pure k_1
  replace hI := hI.pure k_1
  replace hw := hw.pure k_1
  refine WL.nil (WX.then_normal (?_))
  obtain ⟨⟨rao, rc, rxs⟩, hr⟩ : ∃ r, ls[d.toNat]? = some r := ⟨_, List.getElem?_eq_getElem (by omega)⟩
  obtain ⟨g, hg, ⟨hgA, hgw⟩, hrow⟩ := hI.ld.own _ _ hr
  have hg' : rao = some ⟨g, 0, none⟩ := hg
  subst hg'
  have hrl : rxs.length = s.sn := hI.ld.rlen hr
  have hkg : kb _ g = some (some 9) := (hrow.kb.at_ _ rfl).2
  have hDg : D ≠ g := fun e => by
    have h1 := hB.kb
    rw [e, hkg] at h1
    exact absurd h1 (by decide)
  have hxg : g_1 ≠ g := by omega
  obtain ⟨go, hgo⟩ := hI.ld.outer.place0 (j := d.toNat) (by omega)
  subst hgo
  have hkgo : kb _ go = some (some 61) := (hI.ld.outer.kb.at_ _ rfl).2
  have hgog : go ≠ g := fun e => by
    rw [e, hkg] at hkgo
    exact absurd hkgo (by decide)
  have hOo : RSl (fun x => x ≠ g) w_1 esr (some ⟨go, 0, none⟩) lc ls := ⟨fun _ a ea => by injection ea with ea; subst ea; exact hgog, hI.ld.outer.rsl.cap, hI.ld.outer.rsl.sl⟩
  have hk6 := Chg.refl (fun x => x = g) w_1
  have hB0 := hB
  replace hrow : Row (fun x => x = g) w_1 9 es (some ⟨g, 0, none⟩) rc rxs := hrow
  refine WC.draw (fun x => x = g) [0, 1, 2, 3, 4, 5, 6, 7, 8, 9, 10, 11, 12] [13] mixed rfl rfl (fun wd_2 kd_2 zd_2 => ?_)
  have zs_kd_2 := kd_2.size
  replace hB := hB.pure kd_2
  replace hb_1 := hb_1.pure kd_2
  replace hOo := hOo.pure kd_2
  replace hrow := hrow.pure kd_2
  replace hk6 := hk6.pure kd_2
  apply DQ.step (E' := [(0, _)])
  case ho => rfl
  case hs => exact ⟨rfl, trivial⟩
  case hk => rfl
  case h1 =>
    intro wq_4 kq_4
    refine WL.move rfl rfl (?_)
    refine WL.nil ?_
    exact WX.one ⟨rfl, by first | exact Chg.refl _ _ | assumption⟩
  apply DQ.step (E' := [(4, _)])
  case ho => rfl
  case hs => exact ⟨rfl, trivial⟩
  case hk => rfl
  case h1 =>
    intro wq_5 kq_5
    refine WL.nilCheck rfl rfl (?_)
    refine WL.nil ?_
    exact WX.one ⟨rfl, by first | exact Chg.refl _ _ | assumption⟩
  apply DQ.step (E' := [(5, _)])
  case ho => rfl
  case hs => exact ⟨rfl, trivial⟩
  case hk => rfl
  case h1 =>
    intro wq_6 kq_6
    refine WL.fieldAddr (fld_60_0) rfl rfl (?_)
    refine WL.nil ?_
    exact WX.one ⟨rfl, by first | exact Chg.refl _ _ | assumption⟩
  apply DQ.step (E' := [(6, _)])
  case ho => rfl
  case hs => exact ⟨rfl, trivial⟩
  case hk => rfl
  case h1 =>
    intro wq_7 kq_7
    have zs_kq_7 := kq_7.size
    replace hB := hB.chg kq_7 (by first | (intro x h1 h2; exact h2) | (intro x h1 h2; have h3 : _ = _ := h2; exfalso; omega) | (intro b h1 h2 h3; have h4 : _ = _ := h3; (try dsimp only at h2); exfalso; omega) | (intro h1; have h2 : _ = _ := h1; exfalso; omega) | (intro h1; have h2 : _ ≤ _ := h1; exfalso; omega) | (intros; exfalso; (try dsimp only at *); omega) | (intro b h1 h2 h3; exfalso; have h4 := h3.2; (try dsimp only at *); omega) | (intro h1; exfalso; have h4 := h1.2; (try dsimp only at *); omega))
    replace hb_1 := hb_1.chg kq_7 (by first | (intro x h1 h2; exact h2) | (intro x h1 h2; have h3 : _ = _ := h2; exfalso; omega) | (intro b h1 h2 h3; have h4 : _ = _ := h3; (try dsimp only at h2); exfalso; omega) | (intro h1; have h2 : _ = _ := h1; exfalso; omega) | (intro h1; have h2 : _ ≤ _ := h1; exfalso; omega) | (intros; exfalso; (try dsimp only at *); omega) | (intro b h1 h2 h3; exfalso; have h4 := h3.2; (try dsimp only at *); omega) | (intro h1; exfalso; have h4 := h1.2; (try dsimp only at *); omega))
    replace hOo := hOo.chg kq_7 (by first | (intro x h1 h2; exact h2) | (intro x h1 h2; have h3 : _ = _ := h2; exfalso; omega) | (intro b h1 h2 h3; have h4 : _ = _ := h3; (try dsimp only at h2); exfalso; omega) | (intro h1; have h2 : _ = _ := h1; exfalso; omega) | (intro h1; have h2 : _ ≤ _ := h1; exfalso; omega) | (intros; exfalso; (try dsimp only at *); omega) | (intro b h1 h2 h3; exfalso; have h4 := h3.2; (try dsimp only at *); omega) | (intro h1; exfalso; have h4 := h1.2; (try dsimp only at *); omega))
    refine WL.loadB Try.isAgg57 hB rfl rfl rfl (?_)
    refine WL.nil ?_
    exact WX.one ⟨rfl, by first | exact Chg.refl _ _ | assumption⟩
  apply DQ.step (E' := [(3, _)])
  case ho => rfl
  case hs => exact ⟨rfl, trivial⟩
  case hk => rfl
  case h1 =>
    intro wq_8 kq_8
    refine WL.fieldAddr (fld_69_0) rfl rfl (?_)
    refine WL.nil ?_
    exact WX.one ⟨rfl, by first | exact Chg.refl _ _ | assumption⟩
  apply DQ.step (E' := [(8, _)])
  case ho => rfl
  case hs => exact ⟨rfl, trivial⟩
  case hk => rfl
  case h1 =>
    intro wq_9 kq_9
    have zs_kq_9 := kq_9.size
    replace hB := hB.chg kq_9 (by first | (intro x h1 h2; exact h2) | (intro x h1 h2; have h3 : _ = _ := h2; exfalso; omega) | (intro b h1 h2 h3; have h4 : _ = _ := h3; (try dsimp only at h2); exfalso; omega) | (intro h1; have h2 : _ = _ := h1; exfalso; omega) | (intro h1; have h2 : _ ≤ _ := h1; exfalso; omega) | (intros; exfalso; (try dsimp only at *); omega) | (intro b h1 h2 h3; exfalso; have h4 := h3.2; (try dsimp only at *); omega) | (intro h1; exfalso; have h4 := h1.2; (try dsimp only at *); omega))
    replace hb_1 := hb_1.chg kq_9 (by first | (intro x h1 h2; exact h2) | (intro x h1 h2; have h3 : _ = _ := h2; exfalso; omega) | (intro b h1 h2 h3; have h4 : _ = _ := h3; (try dsimp only at h2); exfalso; omega) | (intro h1; have h2 : _ = _ := h1; exfalso; omega) | (intro h1; have h2 : _ ≤ _ := h1; exfalso; omega) | (intros; exfalso; (try dsimp only at *); omega) | (intro b h1 h2 h3; exfalso; have h4 := h3.2; (try dsimp only at *); omega) | (intro h1; exfalso; have h4 := h1.2; (try dsimp only at *); omega))
    replace hOo := hOo.chg kq_9 (by first | (intro x h1 h2; exact h2) | (intro x h1 h2; have h3 : _ = _ := h2; exfalso; omega) | (intro b h1 h2 h3; have h4 : _ = _ := h3; (try dsimp only at h2); exfalso; omega) | (intro h1; have h2 : _ = _ := h1; exfalso; omega) | (intro h1; have h2 : _ ≤ _ := h1; exfalso; omega) | (intros; exfalso; (try dsimp only at *); omega) | (intro b h1 h2 h3; exfalso; have h4 := h3.2; (try dsimp only at *); omega) | (intro h1; exfalso; have h4 := h1.2; (try dsimp only at *); omega))
    refine WL.loadB Try.isAgg3 hb_1 rfl rfl rfl (?_)
    refine WL.nil ?_
    exact WX.one ⟨rfl, by first | exact Chg.refl _ _ | assumption⟩
  apply DQ.step (E' := [(7, _), (9, _)])
  case ho => rfl
  case hs => exact ⟨rfl, rfl, trivial⟩
  case hk => rfl
  case h1 =>
    intro wq_10 kq_10
    have zs_kq_10 := kq_10.size
    replace hB := hB.chg kq_10 (by first | (intro x h1 h2; exact h2) | (intro x h1 h2; have h3 : _ = _ := h2; exfalso; omega) | (intro b h1 h2 h3; have h4 : _ = _ := h3; (try dsimp only at h2); exfalso; omega) | (intro h1; have h2 : _ = _ := h1; exfalso; omega) | (intro h1; have h2 : _ ≤ _ := h1; exfalso; omega) | (intros; exfalso; (try dsimp only at *); omega) | (intro b h1 h2 h3; exfalso; have h4 := h3.2; (try dsimp only at *); omega) | (intro h1; exfalso; have h4 := h1.2; (try dsimp only at *); omega))
    replace hb_1 := hb_1.chg kq_10 (by first | (intro x h1 h2; exact h2) | (intro x h1 h2; have h3 : _ = _ := h2; exfalso; omega) | (intro b h1 h2 h3; have h4 : _ = _ := h3; (try dsimp only at h2); exfalso; omega) | (intro h1; have h2 : _ = _ := h1; exfalso; omega) | (intro h1; have h2 : _ ≤ _ := h1; exfalso; omega) | (intros; exfalso; (try dsimp only at *); omega) | (intro b h1 h2 h3; exfalso; have h4 := h3.2; (try dsimp only at *); omega) | (intro h1; exfalso; have h4 := h1.2; (try dsimp only at *); omega))
    replace hOo := hOo.chg kq_10 (by first | (intro x h1 h2; exact h2) | (intro x h1 h2; have h3 : _ = _ := h2; exfalso; omega) | (intro b h1 h2 h3; have h4 : _ = _ := h3; (try dsimp only at h2); exfalso; omega) | (intro h1; have h2 : _ = _ := h1; exfalso; omega) | (intro h1; have h2 : _ ≤ _ := h1; exfalso; omega) | (intros; exfalso; (try dsimp only at *); omega) | (intro b h1 h2 h3; exfalso; have h4 := h3.2; (try dsimp only at *); omega) | (intro h1; exfalso; have h4 := h1.2; (try dsimp only at *); omega))
    refine WL.indexC (e := esr) hOo Try.underlying57 Try.sizeOf61 (by show some (Value.slice _ s.dn _) = some (Value.slice _ ls.length _); rw [hlen]) rfl ⟨hr, by omega⟩ rfl ?_
    refine WL.nil ?_
    exact WX.one ⟨rfl, by first | exact Chg.refl _ _ | assumption⟩
  apply DQ.step (E' := [(10, _)])
  case ho => rfl
  case hs => exact ⟨rfl, trivial⟩
  case hk => rfl
  case h1 =>
    intro wq_11 kq_11
    have zs_kq_11 := kq_11.size
    replace hB := hB.chg kq_11 (by first | (intro x h1 h2; exact h2) | (intro x h1 h2; have h3 : _ = _ := h2; exfalso; omega) | (intro b h1 h2 h3; have h4 : _ = _ := h3; (try dsimp only at h2); exfalso; omega) | (intro h1; have h2 : _ = _ := h1; exfalso; omega) | (intro h1; have h2 : _ ≤ _ := h1; exfalso; omega) | (intros; exfalso; (try dsimp only at *); omega) | (intro b h1 h2 h3; exfalso; have h4 := h3.2; (try dsimp only at *); omega) | (intro h1; exfalso; have h4 := h1.2; (try dsimp only at *); omega))
    replace hb_1 := hb_1.chg kq_11 (by first | (intro x h1 h2; exact h2) | (intro x h1 h2; have h3 : _ = _ := h2; exfalso; omega) | (intro b h1 h2 h3; have h4 : _ = _ := h3; (try dsimp only at h2); exfalso; omega) | (intro h1; have h2 : _ = _ := h1; exfalso; omega) | (intro h1; have h2 : _ ≤ _ := h1; exfalso; omega) | (intros; exfalso; (try dsimp only at *); omega) | (intro b h1 h2 h3; exfalso; have h4 := h3.2; (try dsimp only at *); omega) | (intro h1; exfalso; have h4 := h1.2; (try dsimp only at *); omega))
    replace hOo := hOo.chg kq_11 (by first | (intro x h1 h2; exact h2) | (intro x h1 h2; have h3 : _ = _ := h2; exfalso; omega) | (intro b h1 h2 h3; have h4 : _ = _ := h3; (try dsimp only at h2); exfalso; omega) | (intro h1; have h2 : _ = _ := h1; exfalso; omega) | (intro h1; have h2 : _ ≤ _ := h1; exfalso; omega) | (intros; exfalso; (try dsimp only at *); omega) | (intro b h1 h2 h3; exfalso; have h4 := h3.2; (try dsimp only at *); omega) | (intro h1; exfalso; have h4 := h1.2; (try dsimp only at *); omega))
    refine WL.load Try.isAgg61 rfl ((hOo.cellsAt hr) 0 _ rfl) rfl ?_
    refine WL.nil ?_
    exact WX.one ⟨rfl, by first | exact Chg.refl _ _ | assumption⟩
  apply DQ.step (E' := [(3, _)])
  case ho => rfl
  case hs => exact ⟨rfl, trivial⟩
  case hk => rfl
  case h1 =>
    intro wq_12 kq_12
    refine WL.fieldAddr (fld_69_1) rfl rfl (?_)
    refine WL.nil ?_
    exact WX.one ⟨rfl, by first | exact Chg.refl _ _ | assumption⟩
  apply DQ.step (E' := [(12, _)])
  case ho => rfl
  case hs => exact ⟨rfl, trivial⟩
  case hk => rfl
  case h1 =>
    intro wq_13 kq_13
    have zs_kq_13 := kq_13.size
    replace hB := hB.chg kq_13 (by first | (intro x h1 h2; exact h2) | (intro x h1 h2; have h3 : _ = _ := h2; exfalso; omega) | (intro b h1 h2 h3; have h4 : _ = _ := h3; (try dsimp only at h2); exfalso; omega) | (intro h1; have h2 : _ = _ := h1; exfalso; omega) | (intro h1; have h2 : _ ≤ _ := h1; exfalso; omega) | (intros; exfalso; (try dsimp only at *); omega) | (intro b h1 h2 h3; exfalso; have h4 := h3.2; (try dsimp only at *); omega) | (intro h1; exfalso; have h4 := h1.2; (try dsimp only at *); omega))
    replace hb_1 := hb_1.chg kq_13 (by first | (intro x h1 h2; exact h2) | (intro x h1 h2; have h3 : _ = _ := h2; exfalso; omega) | (intro b h1 h2 h3; have h4 : _ = _ := h3; (try dsimp only at h2); exfalso; omega) | (intro h1; have h2 : _ = _ := h1; exfalso; omega) | (intro h1; have h2 : _ ≤ _ := h1; exfalso; omega) | (intros; exfalso; (try dsimp only at *); omega) | (intro b h1 h2 h3; exfalso; have h4 := h3.2; (try dsimp only at *); omega) | (intro h1; exfalso; have h4 := h1.2; (try dsimp only at *); omega))
    replace hOo := hOo.chg kq_13 (by first | (intro x h1 h2; exact h2) | (intro x h1 h2; have h3 : _ = _ := h2; exfalso; omega) | (intro b h1 h2 h3; have h4 : _ = _ := h3; (try dsimp only at h2); exfalso; omega) | (intro h1; have h2 : _ = _ := h1; exfalso; omega) | (intro h1; have h2 : _ ≤ _ := h1; exfalso; omega) | (intros; exfalso; (try dsimp only at *); omega) | (intro b h1 h2 h3; exfalso; have h4 := h3.2; (try dsimp only at *); omega) | (intro h1; exfalso; have h4 := h1.2; (try dsimp only at *); omega))
    refine WL.loadB Try.isAgg3 hb_1 rfl rfl rfl (?_)
    refine WL.nil ?_
    exact WX.one ⟨rfl, by first | exact Chg.refl _ _ | assumption⟩
  apply DQ.step (E' := [(3, _)])
  case ho => rfl
  case hs => exact ⟨rfl, trivial⟩
  case hk => rfl
  case h1 =>
    intro wq_14 kq_14
    refine WL.fieldAddr (fld_69_2) rfl rfl (?_)
    refine WL.nil ?_
    exact WX.one ⟨rfl, by first | exact Chg.refl _ _ | assumption⟩
  apply DQ.step (E' := [(14, _)])
  case ho => rfl
  case hs => exact ⟨rfl, trivial⟩
  case hk => rfl
  case h1 =>
    intro wq_15 kq_15
    have zs_kq_15 := kq_15.size
    replace hB := hB.chg kq_15 (by first | (intro x h1 h2; exact h2) | (intro x h1 h2; have h3 : _ = _ := h2; exfalso; omega) | (intro b h1 h2 h3; have h4 : _ = _ := h3; (try dsimp only at h2); exfalso; omega) | (intro h1; have h2 : _ = _ := h1; exfalso; omega) | (intro h1; have h2 : _ ≤ _ := h1; exfalso; omega) | (intros; exfalso; (try dsimp only at *); omega) | (intro b h1 h2 h3; exfalso; have h4 := h3.2; (try dsimp only at *); omega) | (intro h1; exfalso; have h4 := h1.2; (try dsimp only at *); omega))
    replace hb_1 := hb_1.chg kq_15 (by first | (intro x h1 h2; exact h2) | (intro x h1 h2; have h3 : _ = _ := h2; exfalso; omega) | (intro b h1 h2 h3; have h4 : _ = _ := h3; (try dsimp only at h2); exfalso; omega) | (intro h1; have h2 : _ = _ := h1; exfalso; omega) | (intro h1; have h2 : _ ≤ _ := h1; exfalso; omega) | (intros; exfalso; (try dsimp only at *); omega) | (intro b h1 h2 h3; exfalso; have h4 := h3.2; (try dsimp only at *); omega) | (intro h1; exfalso; have h4 := h1.2; (try dsimp only at *); omega))
    replace hOo := hOo.chg kq_15 (by first | (intro x h1 h2; exact h2) | (intro x h1 h2; have h3 : _ = _ := h2; exfalso; omega) | (intro b h1 h2 h3; have h4 : _ = _ := h3; (try dsimp only at h2); exfalso; omega) | (intro h1; have h2 : _ = _ := h1; exfalso; omega) | (intro h1; have h2 : _ ≤ _ := h1; exfalso; omega) | (intros; exfalso; (try dsimp only at *); omega) | (intro b h1 h2 h3; exfalso; have h4 := h3.2; (try dsimp only at *); omega) | (intro h1; exfalso; have h4 := h1.2; (try dsimp only at *); omega))
    refine WL.loadB Try.isAgg9 hb_1 rfl rfl rfl (?_)
    refine WL.nil ?_
    exact WX.one ⟨rfl, by first | exact Chg.refl _ _ | assumption⟩
  apply DQ.step (E' := [(11, _), (13, _)])
  case ho => rfl
  case hs => exact ⟨rfl, rfl, trivial⟩
  case hk => rfl
  case h1 =>
    intro wq_16 kq_16
    have zs_kq_16 := kq_16.size
    replace hB := hB.chg kq_16 (by first | (intro x h1 h2; exact h2) | (intro x h1 h2; have h3 : _ = _ := h2; exfalso; omega) | (intro b h1 h2 h3; have h4 : _ = _ := h3; (try dsimp only at h2); exfalso; omega) | (intro h1; have h2 : _ = _ := h1; exfalso; omega) | (intro h1; have h2 : _ ≤ _ := h1; exfalso; omega) | (intros; exfalso; (try dsimp only at *); omega) | (intro b h1 h2 h3; exfalso; have h4 := h3.2; (try dsimp only at *); omega) | (intro h1; exfalso; have h4 := h1.2; (try dsimp only at *); omega))
    replace hb_1 := hb_1.chg kq_16 (by first | (intro x h1 h2; exact h2) | (intro x h1 h2; have h3 : _ = _ := h2; exfalso; omega) | (intro b h1 h2 h3; have h4 : _ = _ := h3; (try dsimp only at h2); exfalso; omega) | (intro h1; have h2 : _ = _ := h1; exfalso; omega) | (intro h1; have h2 : _ ≤ _ := h1; exfalso; omega) | (intros; exfalso; (try dsimp only at *); omega) | (intro b h1 h2 h3; exfalso; have h4 := h3.2; (try dsimp only at *); omega) | (intro h1; exfalso; have h4 := h1.2; (try dsimp only at *); omega))
    replace hOo := hOo.chg kq_16 (by first | (intro x h1 h2; exact h2) | (intro x h1 h2; have h3 : _ = _ := h2; exfalso; omega) | (intro b h1 h2 h3; have h4 : _ = _ := h3; (try dsimp only at h2); exfalso; omega) | (intro h1; have h2 : _ = _ := h1; exfalso; omega) | (intro h1; have h2 : _ ≤ _ := h1; exfalso; omega) | (intros; exfalso; (try dsimp only at *); omega) | (intro b h1 h2 h3; exfalso; have h4 := h3.2; (try dsimp only at *); omega) | (intro h1; exfalso; have h4 := h1.2; (try dsimp only at *); omega))
    refine WL.index (sz := 1) (j := a.toNat) Try.underlying61 Try.sizeOf9 rfl rfl (by omega) (by show a.toNat < rxs.length; omega) rfl ?_
    refine WL.nil ?_
    exact WX.one ⟨rfl, by first | exact Chg.refl _ _ | assumption⟩
  refine DQ.done (fun hd_3 => ?_)
  refine DL.step [(16, _), (15, _)] rfl ⟨rfl, rfl, trivial⟩ rfl (fun wq_17 kq_17 => ?_)
  have zs_kq_17 := kq_17.size
  replace hB := hB.pure kq_17
  replace hb_1 := hb_1.pure kq_17
  replace hOo := hOo.pure kq_17
  replace hrow := hrow.pure kq_17
  replace hk6 := hk6.pure kq_17
  replace hd_3 := hd_3.pure kq_17
  refine WL.storeRow (z := bs b) (a.toNat) Try.sizeOf9 hrow rfl rfl rfl (by first | (simp; done) | (show 0 + _ * 1 = _; omega)) (by omega) rfl ?_
  intro w_18 zs_18 nr_18 k_18
  have zs_k_18 := k_18.size
  replace hB := hB.chg k_18 (by first | (intro x h1 h2; exact h2) | (intro x h1 h2; have h3 : _ = _ := h2; exfalso; omega) | (intro b h1 h2 h3; have h4 : _ = _ := h3; (try dsimp only at h2); exfalso; omega) | (intro h1; have h2 : _ = _ := h1; exfalso; omega) | (intro h1; have h2 : _ ≤ _ := h1; exfalso; omega) | (intros; exfalso; (try dsimp only at *); omega) | (intro b h1 h2 h3; exfalso; have h4 := h3.2; (try dsimp only at *); omega) | (intro h1; exfalso; have h4 := h1.2; (try dsimp only at *); omega))
  replace hb_1 := hb_1.chg k_18 (by first | (intro x h1 h2; exact h2) | (intro x h1 h2; have h3 : _ = _ := h2; exfalso; omega) | (intro b h1 h2 h3; have h4 : _ = _ := h3; (try dsimp only at h2); exfalso; omega) | (intro h1; have h2 : _ = _ := h1; exfalso; omega) | (intro h1; have h2 : _ ≤ _ := h1; exfalso; omega) | (intros; exfalso; (try dsimp only at *); omega) | (intro b h1 h2 h3; exfalso; have h4 := h3.2; (try dsimp only at *); omega) | (intro h1; exfalso; have h4 := h1.2; (try dsimp only at *); omega))
  replace hOo := hOo.chg k_18 (by first | (intro x h1 h2; exact h2) | (intro x h1 h2; have h3 : _ = _ := h2; exfalso; omega) | (intro b h1 h2 h3; have h4 : _ = _ := h3; (try dsimp only at h2); exfalso; omega) | (intro h1; have h2 : _ = _ := h1; exfalso; omega) | (intro h1; have h2 : _ ≤ _ := h1; exfalso; omega) | (intros; exfalso; (try dsimp only at *); omega) | (intro b h1 h2 h3; exfalso; have h4 := h3.2; (try dsimp only at *); omega) | (intro h1; exfalso; have h4 := h1.2; (try dsimp only at *); omega))
  replace hk6 := hk6.chg k_18 (by first | (intro x h1 h2; exact h2) | (intro x h1 h2; have h3 : _ = _ := h2; exfalso; omega) | (intro b h1 h2 h3; have h4 : _ = _ := h3; (try dsimp only at h2); exfalso; omega) | (intro h1; have h2 : _ = _ := h1; exfalso; omega) | (intro h1; have h2 : _ ≤ _ := h1; exfalso; omega) | (intros; exfalso; (try dsimp only at *); omega) | (intro b h1 h2 h3; exfalso; have h4 := h3.2; (try dsimp only at *); omega) | (intro h1; exfalso; have h4 := h1.2; (try dsimp only at *); omega))
  replace hd_3 := hd_3.chg k_18 (by first | (intro x h1 h2; exact h2) | (intro x h1 h2; have h3 : _ = _ := h2; exfalso; omega) | (intro b h1 h2 h3; have h4 : _ = _ := h3; (try dsimp only at h2); exfalso; omega) | (intro h1; have h2 : _ = _ := h1; exfalso; omega) | (intro h1; have h2 : _ ≤ _ := h1; exfalso; omega) | (intros; exfalso; (try dsimp only at *); omega) | (intro b h1 h2 h3; exfalso; have h4 := h3.2; (try dsimp only at *); omega) | (intro h1; exfalso; have h4 := h1.2; (try dsimp only at *); omega))
  replace hrow := nr_18
  refine WL.nil ?_
  refine WX.one0 (v := undef) ⟨hd_3, ?_⟩
  refine DL.done (fun we_19 ke_19 => ?_)
  have zs_ke_19 := ke_19.size
  replace hB := hB.pure ke_19
  replace hb_1 := hb_1.pure ke_19
  replace hOo := hOo.pure ke_19
  replace hrow := hrow.pure ke_19
  replace hk6 := hk6.pure ke_19
  replace hd_3 := hd_3.pure ke_19
  refine WX.ret0 (.inr rfl) Try.results35 ?_
  have hL := hI.ld.set (f' := lf (putLast s (d, a) b)) hr hk6 hkg hrow (fun d' a' _ _ => putLast_lf d a hd0 ha0 b d' a')
  have hI2 := (hI.setLd hL hk6 (fun b' _ e => .inl (by rw [show b' = g from e]; exact hkg))).mono (S' := A) (fun x hx => hx.1)
  exact ⟨_, rfl, rfl, ⟨aD, putLast_ok hok _ hb, hwin, some ⟨go, 0, none⟩, lc, ls.set d.toNat ⟨some ⟨g, 0, none⟩, rc, rxs.set a.toNat (bs b)⟩, ga, gc, wa, wc, hB, hI2⟩, hw.chg hk6 (fun x _ hx => by rw [show x = g from hx]; exact hgA)⟩
/-- the first ones of those that are kept last -/
def pS (s : RA) (kp : Nat → Bool) (i : Nat) : RA := { s with last := puts kp s.waits s.last i }
theorem pS_yes {s : RA} {kp : Nat → Bool} {i : Nat} {x : Pl × List UInt8} (hx : s.waits[i]? = some x) (hk : kp i = true) : pS s kp (i + 1) = putLast (pS s kp i) x.1 x.2 := by
  unfold pS putLast
  rw [puts_yes hx hk]
theorem pS_not {s : RA} {kp : Nat → Bool} {i : Nat} {x : Pl × List UInt8} (hx : s.waits[i]? = some x) (hk : kp i = false) : pS s kp (i + 1) = pS s kp i := by
  unfold pS
  rw [puts_not hx hk]
theorem puts_stop {V : Type} {kp : Nat → Bool} {ws l : List (Pl × V)} {i : Nat} (h : ∀ j, i ≤ j → j < ws.length → kp j = false) : ∀ n, i ≤ n → puts kp ws l n = puts kp ws l i
  | 0, hn => by rw [show i = 0 from by omega]
  | n + 1, hn => by
    rcases Nat.lt_or_ge n i with h1 | h1
    · rw [show n + 1 = i from by omega]
    · rw [puts]
      have ih := puts_stop (ws := ws) (l := l) h n h1
      split
      · rename_i x hx
        rw [h n h1 (List.getElem?_eq_some_iff.1 hx).1, if_neg (by decide)]
        exact ih
      · exact ih
/-- the waits are gone -/
theorem RD.emptied {A : Nat → Prop} {w w' : World} {D : Nat} {t t' : RA} (h : RD A w D t) (e1 : t'.dn = t.dn) (e2 : t'.sn = t.sn) (e3 : t'.last = t.last) (e4 : t'.gone = t.gone) (e5 : t'.waits = []) (hok : t'.ok) {la ga wa : Option Addr} {lc gc wc : Nat} {ls : List Sr} (hB : Blk w D 60 (dcells t la t.dn lc ga gc wa wc)) (hI : DI A w la lc ls ga gc wa wc t.dn t.sn (lf t) t.gone t.waits)
    (k : Chg (· = D) w w') (hB' : Blk w' D 60 (dcells t' la t'.dn lc ga gc none 0)) : RD A w' D t' := by
  refine ⟨h.aD, hok, (fun p hp => by rw [e5] at hp; cases hp), la, lc, ls, ga, gc, none, 0, hB', ?_⟩
  have h1 := hI.own hB k
  have el : lf t' = lf t := by
    funext d a
    rw [lf, lf, lastS, lastS, e3]
  rw [e1, e2, e4, e5, el]
  exact ⟨h1.ld, h1.gone, Row.nil _ _ _ _⟩
set_option maxHeartbeats 2000000 in
theorem dFlush_calls {A : Nat → Prop} {w : World} {D : Nat} {s : RA} (h : RD A w D s) (hn : s.waits.length ≤ 1000000) :
    Calls Try.prog 26 [ptr D].toArray w (Ret fun v w' => v = vi (if offS s = true then 16 else 0) ∧ RD A w' D (flushS s) ∧ Chg A w w') := by
  have aD := h.aD
  have hok := h.ok
  have hwin := h.win
  have hfok := flushS_ok hok
  have hw := Chg.refl A w
  refine Calls.of_WC Try.func26 rfl Try.ntmps26 (by simp) ?_
  refine WC.seq (WC.region (WL.assign rfl rfl (WL.nil (WX.then_normal (WC.seq (WC.seq (WC.region (?_))))))))
  refine WL.move rfl rfl (?_)
  refine WL.call eg_43 rfl rfl (dSpend_calls h) ?_
  rintro v w2 ⟨rfl, h2, k2, z2⟩
  have zs_k2 := k2.size
  replace hw := hw.chg k2 (by first | (intro x h1 h2; exact h2) | (intro x h1 h2; have h3 : _ = _ := h2; exfalso; omega) | (intro b h1 h2 h3; have h4 : _ = _ := h3; (try dsimp only at h2); exfalso; omega) | (intro h1; have h2 : _ = _ := h1; exfalso; omega) | (intro h1; have h2 : _ ≤ _ := h1; exfalso; omega) | (intros; exfalso; (try dsimp only at *); omega) | (intro b h1 h2 h3; exfalso; have h4 := h3.2; (try dsimp only at *); omega) | (intro h1; exfalso; have h4 := h1.2; (try dsimp only at *); omega))
  rcases ho : offS s with _ | _
  ·
    refine WL.not rfl rfl (WL.nil (WX.then_normal (WC.cond_false rfl (WC.skip (WX.then_normal (WC.seq (WC.seq (?_))))))))
    refine WC.region (WL.assign rfl rfl (WL.nil (WX.then_normal (WC.block (?_)))))
    have hps : pS (spendS s) (fun _ => true) 0 = spendS s := rfl
    have h20 : RD A w2 D (pS (spendS s) (fun _ => true) 0) := h2
    refine WC.loop (σ := Nat) (fun i => [(0, ptr D), (3, vi i)])
      (fun i w' => i ≤ s.waits.length ∧ RD A w' D (pS (spendS s) (fun _ => true) i) ∧ Chg A w w') (fun i => s.waits.length - i) 0 ⟨rfl, rfl, trivial⟩ ⟨Nat.zero_le _, h20, hw⟩ ?_
    clear h2 h20 hw
    rintro i w3 ⟨hi, h2, hw⟩
    have hwe : (pS (spendS s) (fun _ => true) i).waits = s.waits := spendS_waits s
    obtain ⟨la, lc, ls, ga, gc, wa, wc, hB, hI⟩ := h2.ex
    have hB0 := hB
    have hI0 := hI
    refine WC.seq (WC.seq (WC.region (WL.move rfl rfl (WL.move rfl rfl (WL.nilCheck rfl rfl (WL.fieldAddr (fld_60_2) rfl rfl (WL.loadB Try.isAgg58 hB rfl rfl rfl (?_))))))))
    refine WL.len Try.underlying58 rfl rfl ?_
    rw [hwe]
    refine WL.lss? rfl rfl rfl (fun h13 => ?_) (fun h13 => ?_)
    ·
      refine WL.nil (WX.then_normal (WC.cond_true rfl (WC.skip (WX.then_normal (WC.seq (WC.block (WC.region (?_))))))))
      refine WL.move rfl rfl (WL.move rfl rfl (WL.nilCheck rfl rfl (WL.fieldAddr (fld_60_2) rfl rfl (WL.loadB Try.isAgg58 hB rfl rfl rfl (WL.move rfl rfl (?_))))))
      obtain ⟨⟨⟨x1, x2⟩, xb⟩, hx⟩ : ∃ x, s.waits[i]? = some x := ⟨_, List.getElem?_eq_getElem (by omega)⟩
      have hx2 : (pS (spendS s) (fun _ => true) i).waits[i]? = some ((x1, x2), xb) := by rw [hwe]; exact hx
      refine WL.indexT Try.underlying58 Try.sizeOf69 hI.waits.rsl rfl rfl ⟨hx2, rfl⟩ rfl ?_
      intro b_1 o_1 hc_1
      refine WL.loads _ Try.isAgg69 Try.sizeOf69 rfl hc_1 rfl rfl (?_)
      have hxi := hwin _ (List.mem_of_getElem? hx)
      have hxl := hok.lw _ (List.mem_of_getElem? hx)
      have hin : inS (pS (spendS s) (fun _ => true) i) x1 x2 := by
        show 0 ≤ _ ∧ _ < ((spendS s).dn : Int) ∧ 0 ≤ _ ∧ _ < ((spendS s).sn : Int)
        rw [spendS_dn, spendS_sn]
        exact hxi
      refine WL.call eg_35 rfl rfl (dLast_calls h2 hin hxl) ?_
      rintro v w4 ⟨rfl, h4, k4⟩
      replace hw := hw.trans k4 (fun _ _ h => h)
      rw [← pS_yes (x := ((x1, x2), xb)) (by show (spendS s).waits[i]? = _; rw [spendS_waits]; exact hx) rfl] at h4
      refine WL.nil (WX.block_normal (WX.then_normal (WC.region (WL.move rfl rfl (WL.add64 rfl rfl (by first | omega | (constructor <;> omega)) rfl (WL.assign rfl rfl (WL.nil (?_))))))))
      exact WX.loop_next (i + 1) ⟨rfl, rfl, trivial⟩ ⟨by omega, h4, hw⟩ (by show s.waits.length - (i + 1) < s.waits.length - i; omega)
    ·
      refine WL.nil (WX.then_normal (WC.cond_false rfl (WC.exit (WX.then_exit (WX.then_exit (WX.block_here (WX.then_normal (?_))))))))
      refine WC.seq (WC.region (?_))
      have hil : i = s.waits.length := by omega
      have hkD := Chg.refl (fun x => x = D) w3
      refine WL.move rfl rfl ?_
      refine WL.nilCheck rfl rfl (WL.fieldAddr (fld_60_2) rfl rfl (?_))
      refine WL.store Try.sizeOf58 hB rfl rfl rfl rfl ?_
      intro w_1 hs_1 hn_1 k_1
      have zs_k_1 := k_1.size
      replace hkD := hkD.chg k_1 (by first | (intro x h1 h2; exact h2) | (intro x h1 h2; have h3 : _ = _ := h2; exfalso; omega) | (intro b h1 h2 h3; have h4 : _ = _ := h3; (try dsimp only at h2); exfalso; omega) | (intro h1; have h2 : _ = _ := h1; exfalso; omega) | (intro h1; have h2 : _ ≤ _ := h1; exfalso; omega) | (intros; exfalso; (try dsimp only at *); omega) | (intro b h1 h2 h3; exfalso; have h4 := h3.2; (try dsimp only at *); omega) | (intro h1; exfalso; have h4 := h1.2; (try dsimp only at *); omega))
      replace hB := hn_1
      refine WL.nil (WX.then_normal (WC.seq (WC.region (WL.assign rfl rfl (WL.nil (WX.then_normal (WC.ret (?_))))))))
      refine WX.ret1 (.inl rfl) Try.results26 rfl ?_
      first
        | exact ⟨_, rfl, rfl, by rw [flushS, if_pos ho]; exact h2, hw⟩
        | (have hfl : flushS s = { pS (spendS s) (fun _ => true) i with waits := [] } := by
             rw [flushS, if_neg (by rw [ho]; decide), hil]
             unfold pS
             rw [spendS_waits, spendS_last]
           refine ⟨_, rfl, rfl, ?_, hw.chg hkD (fun x _ hx => by rw [show x = D from hx]; exact aD)⟩
           rw [hfl] at hfok ⊢
           exact h2.emptied rfl rfl rfl rfl rfl hfok hB0 hI0 hkD hB)
  ·
    refine WL.not rfl rfl (WL.nil (WX.then_normal (WC.cond_true rfl (WC.seq (WC.region (WL.assign rfl rfl (WL.nil (?_))))))))
    refine WX.then_normal (WC.ret (WX.then_ret (?_)))
    refine WX.ret1 (.inl rfl) Try.results26 rfl ?_
    first
      | exact ⟨_, rfl, rfl, by rw [flushS, if_pos ho]; exact h2, hw⟩
      | (have hfl : flushS s = { pS (spendS s) (fun _ => true) i with waits := [] } := by
           rw [flushS, if_neg (by rw [ho]; decide), hil]
           unfold pS
           rw [spendS_waits, spendS_last]
         refine ⟨_, rfl, rfl, ?_, hw.chg hkD (fun x _ hx => by rw [show x = D from hx]; exact aD)⟩
         rw [hfl] at hfok ⊢
         exact h2.emptied rfl rfl rfl rfl rfl hfok hB0 hI0 hkD hB)
theorem dArm_calls {A : Nat → Prop} {w : World} {D : Nat} {s : RA} (h : RD A w D s) (n : Int) (hn : -9223372036854775808 ≤ n ∧ n ≤ 9223372036854775807) :
    Calls Try.prog 28 [ptr D, vi n].toArray w (Ret fun v w' => v = .tuple #[] ∧ RD A w' D (armS s n) ∧ Chg A w w') := by
  have aD := h.aD
  have hok := armS_ok h.ok hn
  have hwin := h.win
  obtain ⟨la, lc, ls, ga, gc, wa, wc, hB, hI⟩ := h.ex
  have hB0 := hB
  have hkD := Chg.refl (fun x => x = D) w
  refine Calls.of_WC Try.func28 rfl Try.ntmps28 (by simp) ?_
  refine WC.region (WL.move rfl rfl (WL.move rfl rfl (?_)))
  refine WL.maxi rfl rfl rfl ?_
  refine WL.nilCheck rfl rfl (WL.fieldAddr (fld_60_4) rfl rfl (?_))
  refine WL.store Try.sizeOf3 hB rfl rfl rfl rfl ?_
  intro w_1 hs_1 hn_1 k_1
  have zs_k_1 := k_1.size
  replace hkD := hkD.chg k_1 (by first | (intro x h1 h2; exact h2) | (intro x h1 h2; have h3 : _ = _ := h2; exfalso; omega) | (intro b h1 h2 h3; have h4 : _ = _ := h3; (try dsimp only at h2); exfalso; omega) | (intro h1; have h2 : _ = _ := h1; exfalso; omega) | (intro h1; have h2 : _ ≤ _ := h1; exfalso; omega) | (intros; exfalso; (try dsimp only at *); omega) | (intro b h1 h2 h3; exfalso; have h4 := h3.2; (try dsimp only at *); omega) | (intro h1; exfalso; have h4 := h1.2; (try dsimp only at *); omega))
  replace hB := hn_1
  refine WL.nil (?_)
  refine WX.ret0 (.inr rfl) Try.results28 ?_
  refine ⟨_, rfl, rfl, ⟨aD, hok, hwin, la, lc, ls, ga, gc, wa, wc, ?_, hI.own hB0 hkD⟩, hkD.mono (fun x _ hx => by rw [show x = D from hx]; exact aD)⟩
  have e : armD (armS s n) = if -1 > n then -1 else n := by
    unfold armD armS
    by_cases h1 : 0 ≤ n
    ·
      rw [if_pos (by simpa using h1), if_neg (by omega)]
    ·
      rw [if_neg (by simpa using h1)]
      split <;> omega
  show Blk _ D 60 [.slice la s.dn lc, .slice ga s.gone.length gc, .slice wa s.waits.length wc, .bool s.off, vi (armD (armS s n))]
  rw [e]
  exact hB
set_option maxHeartbeats 2000000 in
theorem dCrash_calls {A S : Nat → Prop} {w : World} {D : Nat} {s : RA} (h : RD A w D s) (hn : s.waits.length ≤ 1000000) {ao : Option Addr} {c : Nat} {ps : List Int} (hp : RSl S w ei ao c ps) (hS : ∀ x, S x → A x → False) :
    Calls Try.prog 14 [ptr D, .slice ao ps.length c].toArray w (Ret fun v w' => v = .tuple #[] ∧ RD A w' D (crashS s ps) ∧ Chg A w w') := by
  have aD := h.aD
  have hok := h.ok
  have hwin := h.win
  have hcok := crashS_ok hok ps
  have hw := Chg.refl A w
  refine Calls.of_WC Try.func14 rfl Try.ntmps14 (by simp) ?_
  refine WC.seq (WC.seq (WC.region (WL.assign rfl rfl (WL.nil (WX.then_normal (WC.block (?_)))))))
  have h20 : RD A w D (pS s (keep ps) 0) := h
  refine WC.loop (σ := Nat) (fun i => [(0, ptr D), (1, .slice ao ps.length c), (4, vi i)])
    (fun i w' => i ≤ s.waits.length ∧ RD A w' D (pS s (keep ps) i) ∧ RSl S w' ei ao c ps ∧ Chg A w w') (fun i => s.waits.length - i) 0 ⟨rfl, rfl, rfl, trivial⟩ ⟨Nat.zero_le _, h20, hp, hw⟩ ?_
  clear h h20 hp hw
  rintro i w3 ⟨hi, h2, hp, hw⟩
  obtain ⟨la, lc, ls, ga, gc, wa, wc, hB, hI⟩ := h2.ex
  have hB0 := hB
  have hI0 := hI
  have hkD := Chg.refl (fun x => x = D) w3
  refine WC.seq (WC.seq (WC.region (WL.move rfl rfl (WL.move rfl rfl (WL.nilCheck rfl rfl (WL.fieldAddr (fld_60_2) rfl rfl (WL.loadB Try.isAgg58 hB rfl rfl rfl (?_))))))))
  refine WL.len Try.underlying58 rfl rfl ?_
  rw [show (pS s (keep ps) i).waits = s.waits from rfl]
  refine WL.lss? rfl rfl rfl (fun h11 => ?_) (fun h11 => ?_)
  ·
    refine WL.move rfl rfl (WL.want rfl rfl rfl (WL.move rfl rfl (WL.want rfl rfl rfl (WL.move rfl rfl (WL.want rfl rfl rfl (WL.len Try.underlying37 rfl rfl (WL.want rfl rfl rfl (?_))))))))
    refine WL.lss? rfl rfl rfl (fun h16 => ?_) (fun h16 => ?_)
    ·
      refine WL.pickT rfl rfl rfl (WL.nil (WX.then_normal (WC.cond_true rfl (WC.skip (WX.then_normal (WC.seq (WC.block (?_))))))))
      refine WC.seq (WC.region (WL.move rfl rfl (WL.move rfl rfl (?_))))
      obtain ⟨⟨⟨x1, x2⟩, xb⟩, hx⟩ : ∃ x, s.waits[i]? = some x := ⟨_, List.getElem?_eq_getElem (by omega)⟩
      obtain ⟨q, hq⟩ : ∃ q, ps[i]? = some q := ⟨_, List.getElem?_eq_getElem (by omega)⟩
      refine WL.indexT Try.underlying37 Try.sizeOf3 hp rfl rfl ⟨hq, rfl⟩ rfl ?_
      intro b_1 o_1 hc_1
      refine WL.load Try.isAgg3 rfl (hc_1 0 _ rfl) rfl (?_)
      refine WL.remk rfl rfl (by decide) rfl ?_
      by_cases hq2 : q % 2 = 1
      ·
        have hkp : keep ps i = true := by rw [keep, hq]; exact decide_eq_true hq2
        refine WL.neqT rfl rfl rfl ((tmod_two q).2 hq2) ?_
        refine WL.nil (WX.then_normal (WC.cond_true rfl (WC.region (WL.move rfl rfl (WL.move rfl rfl (WL.nilCheck rfl rfl (WL.fieldAddr (fld_60_2) rfl rfl (?_))))))))
        refine WL.loadB Try.isAgg58 hB rfl rfl rfl (WL.move rfl rfl (?_))
        refine WL.indexT Try.underlying58 Try.sizeOf69 hI.waits.rsl rfl rfl ⟨hx, rfl⟩ rfl ?_
        intro b_2 o_2 hc_2
        refine WL.loads _ Try.isAgg69 Try.sizeOf69 rfl hc_2 rfl rfl (?_)
        have hxi := hwin _ (List.mem_of_getElem? hx)
        have hxl := hok.lw _ (List.mem_of_getElem? hx)
        have hin : inS (pS s (keep ps) i) x1 x2 := hxi
        refine WL.call eg_35 rfl rfl (dLast_calls h2 hin hxl) ?_
        rintro v w4 ⟨rfl, h4, k4⟩
        replace hw := hw.trans k4 (fun _ _ h => h)
        replace hp := hp.chg k4 (fun x _ h1 h3 => hS x h1 h3)
        rw [← pS_yes (x := ((x1, x2), xb)) hx hkp] at h4
        refine WL.nil (WX.block_normal (WX.then_normal (WC.region (WL.move rfl rfl (WL.add64 rfl rfl (by first | omega | (constructor <;> omega)) rfl (WL.assign rfl rfl (WL.nil (?_))))))))
        first
          | exact WX.loop_next (i + 1) ⟨rfl, rfl, rfl, trivial⟩ ⟨by omega, h4, hp, hw⟩ (by show s.waits.length - (i + 1) < s.waits.length - i; omega)
          | (rw [← pS_not hx hkp] at h2
             exact WX.loop_next (i + 1) ⟨rfl, rfl, rfl, trivial⟩ ⟨by omega, h2, hp, hw⟩ (by show s.waits.length - (i + 1) < s.waits.length - i; omega))
      ·
        have hkp : keep ps i = false := by rw [keep, hq]; exact decide_eq_false hq2
        refine WL.neqF rfl rfl rfl ((Decidable.not_not.1 (fun h => hq2 ((tmod_two q).1 h)))) ?_
        refine WL.nil (WX.then_normal (WC.cond_false rfl (WC.skip (WX.block_normal (WX.then_normal (WC.region (WL.move rfl rfl (?_))))))))
        refine WL.add64 rfl rfl (by first | omega | (constructor <;> omega)) rfl (WL.assign rfl rfl (WL.nil (?_)))
        first
          | exact WX.loop_next (i + 1) ⟨rfl, rfl, rfl, trivial⟩ ⟨by omega, h4, hp, hw⟩ (by show s.waits.length - (i + 1) < s.waits.length - i; omega)
          | (rw [← pS_not hx hkp] at h2
             exact WX.loop_next (i + 1) ⟨rfl, rfl, rfl, trivial⟩ ⟨by omega, h2, hp, hw⟩ (by show s.waits.length - (i + 1) < s.waits.length - i; omega))
    ·
      refine WL.pickT rfl rfl rfl (WL.nil (WX.then_normal (WC.cond_false rfl (WC.exit (WX.then_exit (WX.then_exit (WX.block_here (?_))))))))
      refine WX.then_normal (WC.region (?_))
      refine WL.move rfl rfl ?_
      refine WL.move rfl rfl (WL.move rfl rfl (WL.nilCheck rfl rfl (WL.fieldAddr (fld_60_2) rfl rfl (?_))))
      refine WL.store Try.sizeOf58 hB rfl rfl rfl rfl ?_
      intro w_1 hs_1 hn_1 k_1
      have zs_k_1 := k_1.size
      replace hkD := hkD.chg k_1 (by first | (intro x h1 h2; exact h2) | (intro x h1 h2; have h3 : _ = _ := h2; exfalso; omega) | (intro b h1 h2 h3; have h4 : _ = _ := h3; (try dsimp only at h2); exfalso; omega) | (intro h1; have h2 : _ = _ := h1; exfalso; omega) | (intro h1; have h2 : _ ≤ _ := h1; exfalso; omega) | (intros; exfalso; (try dsimp only at *); omega) | (intro b h1 h2 h3; exfalso; have h4 := h3.2; (try dsimp only at *); omega) | (intro h1; exfalso; have h4 := h1.2; (try dsimp only at *); omega))
      replace hB := hn_1
      refine WL.nilCheck rfl rfl (WL.fieldAddr (fld_60_3) rfl rfl (?_))
      refine WL.store Try.sizeOf4 hB rfl rfl rfl rfl ?_
      intro w_2 hs_2 hn_2 k_2
      have zs_k_2 := k_2.size
      replace hkD := hkD.chg k_2 (by first | (intro x h1 h2; exact h2) | (intro x h1 h2; have h3 : _ = _ := h2; exfalso; omega) | (intro b h1 h2 h3; have h4 : _ = _ := h3; (try dsimp only at h2); exfalso; omega) | (intro h1; have h2 : _ = _ := h1; exfalso; omega) | (intro h1; have h2 : _ ≤ _ := h1; exfalso; omega) | (intros; exfalso; (try dsimp only at *); omega) | (intro b h1 h2 h3; exfalso; have h4 := h3.2; (try dsimp only at *); omega) | (intro h1; exfalso; have h4 := h1.2; (try dsimp only at *); omega))
      replace hB := hn_2
      refine WL.nilCheck rfl rfl (WL.fieldAddr (fld_60_4) rfl rfl (?_))
      refine WL.store Try.sizeOf3 hB rfl rfl rfl rfl ?_
      intro w_3 hs_3 hn_3 k_3
      have zs_k_3 := k_3.size
      replace hkD := hkD.chg k_3 (by first | (intro x h1 h2; exact h2) | (intro x h1 h2; have h3 : _ = _ := h2; exfalso; omega) | (intro b h1 h2 h3; have h4 : _ = _ := h3; (try dsimp only at h2); exfalso; omega) | (intro h1; have h2 : _ = _ := h1; exfalso; omega) | (intro h1; have h2 : _ ≤ _ := h1; exfalso; omega) | (intros; exfalso; (try dsimp only at *); omega) | (intro b h1 h2 h3; exfalso; have h4 := h3.2; (try dsimp only at *); omega) | (intro h1; exfalso; have h4 := h1.2; (try dsimp only at *); omega))
      replace hB := hn_3
      refine WL.nil (?_)
      refine WX.ret0 (.inr rfl) Try.results14 ?_
      have hfl : crashS s ps = { pS s (keep ps) i with waits := [], off := false, armed := false } := by
        unfold crashS pS
        rw [puts_stop (i := i) (kp := keep ps) (fun j hj hj2 => by rw [keep, List.getElem?_eq_none (by omega)]) s.waits.length hi]
      refine ⟨_, rfl, rfl, ?_, hw.chg hkD (fun x _ hx => by rw [show x = D from hx]; exact aD)⟩
      rw [hfl] at hcok ⊢
      exact h2.emptied rfl rfl rfl rfl rfl hcok hB0 hI0 hkD hB
  ·
    refine WL.move rfl rfl (WL.pass rfl rfl rfl rfl (WL.pass rfl rfl rfl rfl (WL.pass rfl rfl rfl rfl (WL.pass rfl rfl rfl rfl (WL.pickF rfl rfl rfl (WL.nil (WX.then_normal (?_))))))))
    refine WC.cond_false rfl (WC.exit (WX.then_exit (WX.then_exit (WX.block_here (WX.then_normal (WC.region (?_)))))))
    refine WL.move rfl rfl ?_
    refine WL.move rfl rfl (WL.move rfl rfl (WL.nilCheck rfl rfl (WL.fieldAddr (fld_60_2) rfl rfl (?_))))
    refine WL.store Try.sizeOf58 hB rfl rfl rfl rfl ?_
    intro w_1 hs_1 hn_1 k_1
    have zs_k_1 := k_1.size
    replace hkD := hkD.chg k_1 (by first | (intro x h1 h2; exact h2) | (intro x h1 h2; have h3 : _ = _ := h2; exfalso; omega) | (intro b h1 h2 h3; have h4 : _ = _ := h3; (try dsimp only at h2); exfalso; omega) | (intro h1; have h2 : _ = _ := h1; exfalso; omega) | (intro h1; have h2 : _ ≤ _ := h1; exfalso; omega) | (intros; exfalso; (try dsimp only at *); omega) | (intro b h1 h2 h3; exfalso; have h4 := h3.2; (try dsimp only at *); omega) | (intro h1; exfalso; have h4 := h1.2; (try dsimp only at *); omega))
    replace hB := hn_1
    refine WL.nilCheck rfl rfl (WL.fieldAddr (fld_60_3) rfl rfl (?_))
    refine WL.store Try.sizeOf4 hB rfl rfl rfl rfl ?_
    intro w_2 hs_2 hn_2 k_2
    have zs_k_2 := k_2.size
    replace hkD := hkD.chg k_2 (by first | (intro x h1 h2; exact h2) | (intro x h1 h2; have h3 : _ = _ := h2; exfalso; omega) | (intro b h1 h2 h3; have h4 : _ = _ := h3; (try dsimp only at h2); exfalso; omega) | (intro h1; have h2 : _ = _ := h1; exfalso; omega) | (intro h1; have h2 : _ ≤ _ := h1; exfalso; omega) | (intros; exfalso; (try dsimp only at *); omega) | (intro b h1 h2 h3; exfalso; have h4 := h3.2; (try dsimp only at *); omega) | (intro h1; exfalso; have h4 := h1.2; (try dsimp only at *); omega))
    replace hB := hn_2
    refine WL.nilCheck rfl rfl (WL.fieldAddr (fld_60_4) rfl rfl (?_))
    refine WL.store Try.sizeOf3 hB rfl rfl rfl rfl ?_
    intro w_3 hs_3 hn_3 k_3
    have zs_k_3 := k_3.size
    replace hkD := hkD.chg k_3 (by first | (intro x h1 h2; exact h2) | (intro x h1 h2; have h3 : _ = _ := h2; exfalso; omega) | (intro b h1 h2 h3; have h4 : _ = _ := h3; (try dsimp only at h2); exfalso; omega) | (intro h1; have h2 : _ = _ := h1; exfalso; omega) | (intro h1; have h2 : _ ≤ _ := h1; exfalso; omega) | (intros; exfalso; (try dsimp only at *); omega) | (intro b h1 h2 h3; exfalso; have h4 := h3.2; (try dsimp only at *); omega) | (intro h1; exfalso; have h4 := h1.2; (try dsimp only at *); omega))
    replace hB := hn_3
    refine WL.nil (?_)
    refine WX.ret0 (.inr rfl) Try.results14 ?_
    have hfl : crashS s ps = { pS s (keep ps) i with waits := [], off := false, armed := false } := by
      unfold crashS pS
      rw [puts_stop (i := i) (kp := keep ps) (fun j hj hj2 => by rw [keep, List.getElem?_eq_none (by omega)]) s.waits.length hi]
    refine ⟨_, rfl, rfl, ?_, hw.chg hkD (fun x _ hx => by rw [show x = D from hx]; exact aD)⟩
    rw [hfl] at hcok ⊢
    exact h2.emptied rfl rfl rfl rfl rfl hcok hB0 hI0 hkD hB
end Go.Proofs.Ytcdbkfaebgficaa
namespace Go.Proofs.Ytcdbkfaebgficaa
open Go.RowKit Go.HL

set_option maxHeartbeats 1000000 in
theorem dForget_calls {A : Nat → Prop} {w : World} {D : Nat} {s : RA} (h : RD A w D s) (hn : s.waits.length ≤ 1000000) (d : Int) :
    Calls Try.prog 44 [ptr D, vi d].toArray w (Ret fun v w' => v = .tuple #[] ∧ RD (fun x => A x ∨ w.heap.size ≤ x) w' D (forgetS s d) ∧ Chg A w w') := by
  have aD := h.aD
  have hok := forgetS_ok h.ok d
  have hwin := h.win
  replace h := h.old
  have hDw := h.lt
  obtain ⟨la, lc, ls, ga, gc, wa, wc, hB, hI⟩ := h.ex
  have hw := Chg.refl Nob w
  refine Calls.of_WC Try.func44 rfl Try.ntmps44 (by simp) ?_
  refine WC.seq (WC.region (WL.assign rfl rfl (WL.nil (WX.then_normal (WC.seq (WC.seq (WC.region (?_))))))))
  refine WL.assign rfl rfl (WL.nil (WX.then_normal (WC.block (?_))))
  refine WC.loop (σ := Nat × Option Addr × Nat) (fun q => [(0, ptr D), (1, vi d), (4, .slice q.2.1 (stay d (s.waits.take q.1)).length q.2.2), (5, vi q.1)])
    (fun q w' => q.1 ≤ s.waits.length ∧ Row (fun x => w.heap.size ≤ x) w' 69 ewt q.2.1 q.2.2 (stay d (s.waits.take q.1)) ∧ Blk w' D 60 (dcells s la s.dn lc ga gc wa wc) ∧ DI (fun b => A b ∧ b < w.heap.size) w' la lc ls ga gc wa wc s.dn s.sn (lf s) s.gone s.waits ∧ Chg Nob w w') (fun q => s.waits.length - q.1) (0, none, 0) ⟨rfl, rfl, rfl, rfl, trivial⟩ ⟨Nat.zero_le _, Row.nil _ _ _ _, hB, hI, hw⟩ ?_
  clear hB hI hw
  rintro ⟨i, ao, c⟩ w2 ⟨hi, hO, hB, hI, hw⟩
  simp only at hi hO
  dsimp only
  have hB0 := hB
  have hI0 := hI
  have hkD := Chg.refl (fun x => x = D) w2
  have hsl := stay_len d (s.waits.take i)
  have hst : (s.waits.take i).length ≤ 1000000 := by rw [List.length_take]; omega
  refine WC.seq (WC.seq (WC.region (WL.move rfl rfl (WL.move rfl rfl (WL.nilCheck rfl rfl (WL.fieldAddr (fld_60_2) rfl rfl (WL.loadB Try.isAgg58 hB rfl rfl rfl (?_))))))))
  refine WL.len Try.underlying58 rfl rfl (?_)
  refine WL.lss? rfl rfl rfl (fun h12 => ?_) (fun h12 => ?_)
  ·
    refine WL.nil (WX.then_normal (WC.cond_true rfl (WC.skip (WX.then_normal (WC.seq (WC.block (WC.seq (?_))))))))
    refine WC.region (WL.move rfl rfl (WL.nilCheck rfl rfl (WL.fieldAddr (fld_60_2) rfl rfl (WL.loadB Try.isAgg58 hB rfl rfl rfl (WL.move rfl rfl (?_))))))
    obtain ⟨⟨⟨x1, x2⟩, xb⟩, hx⟩ : ∃ x, s.waits[i]? = some x := ⟨_, List.getElem?_eq_getElem (by omega)⟩
    have hsn := stay_snoc (d := d) hx
    refine WL.indexT Try.underlying58 Try.sizeOf69 hI.waits.rsl rfl rfl ⟨hx, rfl⟩ rfl ?_
    intro b_1 o_1 hc_1
    refine WL.fieldAddr (fld_69_0) rfl rfl (WL.load Try.isAgg3 rfl (hc_1 _ _ rfl) rfl (WL.move rfl rfl (?_)))
    refine WL.neq? rfl rfl rfl (fun h24 => ?_) (fun h24 => ?_)
    ·
      refine WL.nil (WX.then_normal (WC.cond_true rfl (WC.region (WL.move rfl rfl (WL.move rfl rfl (WL.nilCheck rfl rfl (WL.fieldAddr (fld_60_2) rfl rfl (?_))))))))
      refine WL.loadB Try.isAgg58 hB rfl rfl rfl (WL.move rfl rfl (?_))
      refine WL.indexT Try.underlying58 Try.sizeOf69 hI.waits.rsl rfl rfl ⟨hx, rfl⟩ rfl ?_
      intro b_2 o_2 hc_2
      refine WL.loads _ Try.isAgg69 Try.sizeOf69 rfl hc_2 rfl rfl (?_)
      refine WL.build (e := ewt) [((x1, x2), xb)] Try.underlying58 Try.sizeOf69 Try.zeroValue69 rfl rfl rfl (by first | (simp [Value.cells]; done) | (simp [Value.cells] <;> rfl) | (simp [Value.cells, eb, ei, es, ebool, e32, e64]; done)) (by decide) rfl ?_
      intro a_b33 w_b33 b33 l_b33 z_b33 k_b33
      have zs_k_b33 := k_b33.size
      replace hO := hO.pure k_b33
      replace hB := hB.pure k_b33
      replace hI := hI.pure k_b33
      replace hw := hw.pure k_b33
      replace hkD := hkD.pure k_b33
      refine WL.append (e := ewt) (xs := stay d (s.waits.take i)) (S := fun x => w.heap.size ≤ x) info_69 rfl Try.underlying58 rfl rfl hO (b33.rsl.src Try.underlying58) (by constructor <;> (simp only [List.length_cons, List.length_nil]; omega)) (fun x hx => by have := hw.size; omega) rfl ?_
      intro a9 c9 w9 hO9 g9 n9
      have k9 := g9.chg
      replace hB := hB.chg k9 (fun hm => by have := hm.2; omega)
      replace hI := hI.chg k9 (fun b _ h1 h2 => by have := h1.2; have := h2.2; omega)
      replace hw := hw.chg k9 (fun x h1 h2 => by have := h2.2; omega)
      refine WL.assign rfl rfl (WL.nil (WX.block_normal (WX.then_normal (WC.region (WL.move rfl rfl (WL.add64 rfl rfl (by first | omega | (constructor <;> omega)) rfl (WL.assign rfl rfl (?_))))))))
      refine WL.nil (?_)
      first
        | (rw [if_neg h24] at hsn
           have e9 : stay d (s.waits.take i) ++ [((x1, x2), xb)] = stay d (s.waits.take (i + 1)) := hsn.symm
           rw [e9] at hO9
           exact WX.loop_next (i + 1, a9, c9) ⟨rfl, rfl, by rw [e9]; rfl, rfl, trivial⟩ ⟨by show i + 1 ≤ _; omega, hO9, hB, hI, hw⟩ (by show s.waits.length - (i + 1) < s.waits.length - i; omega))
        | (rw [if_pos h24] at hsn
           rw [← hsn] at hO ⊢
           exact WX.loop_next (i + 1, ao, c) ⟨rfl, rfl, rfl, rfl, trivial⟩ ⟨by show i + 1 ≤ _; omega, hO, hB, hI, hw⟩ (by show s.waits.length - (i + 1) < s.waits.length - i; omega))
    ·
      refine WL.nil (WX.then_normal (WC.cond_false rfl (WC.skip (WX.block_normal (WX.then_normal (WC.region (WL.move rfl rfl (?_))))))))
      refine WL.add64 rfl rfl (by first | omega | (constructor <;> omega)) rfl (WL.assign rfl rfl (WL.nil (?_)))
      first
        | (rw [if_neg h24] at hsn
           have e9 : stay d (s.waits.take i) ++ [((x1, x2), xb)] = stay d (s.waits.take (i + 1)) := hsn.symm
           rw [e9] at hO9
           exact WX.loop_next (i + 1, a9, c9) ⟨rfl, rfl, by rw [e9]; rfl, rfl, trivial⟩ ⟨by show i + 1 ≤ _; omega, hO9, hB, hI, hw⟩ (by show s.waits.length - (i + 1) < s.waits.length - i; omega))
        | (rw [if_pos h24] at hsn
           rw [← hsn] at hO ⊢
           exact WX.loop_next (i + 1, ao, c) ⟨rfl, rfl, rfl, rfl, trivial⟩ ⟨by show i + 1 ≤ _; omega, hO, hB, hI, hw⟩ (by show s.waits.length - (i + 1) < s.waits.length - i; omega))
  ·
    refine WL.nil (WX.then_normal (WC.cond_false rfl (WC.exit (WX.then_exit (WX.then_exit (WX.block_here (WX.then_normal (?_))))))))
    refine WC.region (?_)
    have hil : i = s.waits.length := by omega
    rw [hil, List.take_length] at hO ⊢
    have hO0 := hO
    refine WL.move rfl rfl ?_
    refine WL.move rfl rfl (WL.nilCheck rfl rfl (WL.fieldAddr (fld_60_2) rfl rfl (?_)))
    refine WL.store Try.sizeOf58 hB rfl rfl rfl rfl ?_
    intro w_1 hs_1 hn_1 k_1
    have zs_k_1 := k_1.size
    replace hkD := hkD.chg k_1 (by first | (intro x h1 h2; exact h2) | (intro x h1 h2; have h3 : _ = _ := h2; exfalso; omega) | (intro b h1 h2 h3; have h4 : _ = _ := h3; (try dsimp only at h2); exfalso; omega) | (intro h1; have h2 : _ = _ := h1; exfalso; omega) | (intro h1; have h2 : _ ≤ _ := h1; exfalso; omega) | (intros; exfalso; (try dsimp only at *); omega) | (intro b h1 h2 h3; exfalso; have h4 := h3.2; (try dsimp only at *); omega) | (intro h1; exfalso; have h4 := h1.2; (try dsimp only at *); omega))
    replace hB := hn_1
    refine WL.nil (?_)
    refine WX.ret0 (.inr rfl) Try.results44 ?_
    have hwk := hkD.mono (M' := A) (fun x _ hx => by rw [show x = D from hx]; exact aD)
    refine ⟨_, rfl, rfl, ⟨.inl aD, hok, fun p hp => ?_, la, lc, ls, ga, gc, ao, c, ?_, ?_⟩, (hw.mono (M' := A) (fun _ _ h => h.elim)).trans hwk (fun _ _ h => h)⟩
    ·
      exact hwin p (List.mem_filter.1 hp).1
    ·
      exact hB
    ·
      have hI2 := hI0.own hB0 hkD
      refine ⟨hI2.ld.mono (fun x hx => .inl hx.1), hI2.gone.mono (fun x hx => .inl hx.1), ?_⟩
      have hne : ∀ b, b = D → kb w2 b ≠ some (some 69) := fun b e => by rw [e, hB0.kb]; decide
      exact (hO0.chgK hkD (fun b _ m => hne b m)).mono (fun x hx => .inr hx)
set_option maxHeartbeats 1000000 in
theorem dLose_calls {A : Nat → Prop} {w : World} {D : Nat} {s : RA} (h : RD A w D s) (hn : s.waits.length ≤ 1000000) (d : Int) :
    Calls Try.prog 29 [ptr D, vi d].toArray w (Ret fun v w' => v = vi (if isS s d then 0 else 1) ∧ RD (fun x => A x ∨ w.heap.size ≤ x) w' D (if isS s d then loseS s d true else s) ∧ Chg A w w') := by
  have aD := h.aD
  have hok := loseS_ok h.ok d true
  have hgl := h.ok.gl
  have hwin := h.win
  have hw := Chg.refl A w
  refine Calls.of_WC Try.func29 rfl Try.ntmps29 (by simp) ?_
  refine WC.seq (WC.region (WL.assign rfl rfl (WL.nil (WX.then_normal (WC.seq (WC.seq (WC.region (?_))))))))
  refine WL.move rfl rfl (WL.move rfl rfl (?_))
  refine WL.call eg_34 rfl rfl (dIs_calls h d) ?_
  rintro v w1 ⟨rfl, k1⟩
  have zs_k1 := k1.size
  replace h := h.pure k1
  replace hw := hw.pure k1
  by_cases h7 : isS s d
  ·
    rw [decide_eq_true h7]
    refine WL.not rfl rfl (WL.nil (WX.then_normal (WC.cond_false rfl (WC.skip (WX.then_normal (WC.seq (WC.region (?_))))))))
    refine WL.move rfl rfl (WL.move rfl rfl (?_))
    refine WL.call eg_44 rfl rfl (dForget_calls h hn d) ?_
    rintro v w2 ⟨rfl, h2, k2⟩
    replace hw := hw.trans k2 (fun _ _ h => h)
    obtain ⟨la, lc, ls, ga, gc, wa, wc, hB, hI⟩ := h2.ex
    have hlt : d.toNat < s.gone.length := by rw [hgl]; have := h7.1; have := h7.2; omega
    obtain ⟨g, hg⟩ := hI.gone.place0 (j := d.toNat) hlt
    subst hg
    have hgA : A g ∨ w1.heap.size ≤ g := hI.gone.at_ _ rfl
    have zk2 := k2.size
    refine WL.nil (WX.then_normal (WC.seq (WC.region (WL.move rfl rfl (WL.nilCheck rfl rfl (WL.fieldAddr (fld_60_1) rfl rfl (WL.loadB Try.isAgg48 hB rfl rfl rfl (?_))))))))
    refine WL.move rfl rfl (?_)
    refine WL.index (sz := 1) (j := d.toNat) Try.underlying48 Try.sizeOf4 rfl rfl (by have := h7.1; omega) hlt rfl ?_
    refine WL.storeRow (z := true) d.toNat Try.sizeOf4 hI.gone rfl rfl rfl (by show 0 + d.toNat * 1 = d.toNat; omega) hlt rfl ?_
    intro w5 z5 hG5 k5
    have hI5 := hI.setGone hG5 k5
    have hB5 := hB.chg k5 (fun e => hI.neG hB ⟨_, rfl, e⟩)
    refine WL.nil (WX.then_normal (WC.seq (WC.region (WL.assign rfl rfl (WL.nil (WX.then_normal (WC.ret (?_))))))))
    refine WX.ret1 (.inl rfl) Try.results29 rfl ?_
    first
      | (rw [if_pos h7, if_pos h7]
         refine ⟨_, rfl, rfl, ?_, ?_⟩
         ·
           have hR : RD (fun x => A x ∨ w1.heap.size ≤ x) w5 D (loseS s d true) := ⟨.inl aD, hok, (fun p hp => hwin p (List.mem_filter.1 hp).1), la, lc, ls, some ⟨g, 0, none⟩, gc, wa, wc, by
             show Blk w5 D 60 [.slice la s.dn lc, .slice (some ⟨g, 0, none⟩) (s.gone.set d.toNat true).length gc, _, _, _]
             rw [List.length_set]
             exact hB5, hI5⟩
           exact hR.mono (fun x hx => hx.imp id (fun h => by omega))
         ·
           refine hw.chg k5 (fun x h1 hx => ?_)
           rcases hgA with h3 | h3
           ·
             rw [show x = g from hx]; exact h3
           ·
             exfalso
             have h4 : x = g := hx
             omega)
      | (rw [if_neg h7, if_neg h7]
         exact ⟨_, rfl, rfl, h.mono (fun x hx => .inl hx), hw⟩)
  ·
    rw [decide_eq_false h7]
    refine WL.not rfl rfl (WL.nil (WX.then_normal (WC.cond_true rfl (WC.seq (WC.region (WL.assign rfl rfl (WL.nil (?_))))))))
    refine WX.then_normal (WC.ret (WX.then_ret (?_)))
    refine WX.ret1 (.inl rfl) Try.results29 rfl ?_
    first
      | (rw [if_pos h7, if_pos h7]
         refine ⟨_, rfl, rfl, ?_, ?_⟩
         ·
           have hR : RD (fun x => A x ∨ w1.heap.size ≤ x) w5 D (loseS s d true) := ⟨.inl aD, hok, (fun p hp => hwin p (List.mem_filter.1 hp).1), la, lc, ls, some ⟨g, 0, none⟩, gc, wa, wc, by
             show Blk w5 D 60 [.slice la s.dn lc, .slice (some ⟨g, 0, none⟩) (s.gone.set d.toNat true).length gc, _, _, _]
             rw [List.length_set]
             exact hB5, hI5⟩
           exact hR.mono (fun x hx => hx.imp id (fun h => by omega))
         ·
           refine hw.chg k5 (fun x h1 hx => ?_)
           rcases hgA with h3 | h3
           ·
             rw [show x = g from hx]; exact h3
           ·
             exfalso
             have h4 : x = g := hx
             omega)
      | (rw [if_neg h7, if_neg h7]
         exact ⟨_, rfl, rfl, h.mono (fun x hx => .inl hx), hw⟩)
end Go.Proofs.Ytcdbkfaebgficaa
namespace Go.Proofs.Ytcdbkfaebgficaa
open Go.RowKit Go.HL

theorem blank_calls (w : World) (n : Nat) (hn : 1 ≤ n ∧ n ≤ 2000) :
    Calls Try.prog 23 [vi n].toArray w (Ret fun v w' => (∃ g c, v = .slice (some ⟨g, 0, none⟩) n c ∧ Row (· = g) w' 9 es (some ⟨g, 0, none⟩) c (List.replicate n (bs zeros)) ∧ w.heap.size ≤ g) ∧ Chg Nob w w') := by
  have hw := Chg.refl Nob w
  refine Calls.of_WC Try.func23 rfl Try.ntmps23 (by simp) ?_
  refine WC.seq (WC.region (WL.assign rfl rfl (WL.nil (WX.then_normal (WC.seq (WC.region (?_)))))))
  refine WL.make (e := eb) (0 : UInt8) 128 128 Try.underlying43 info_5 rfl rfl rfl ⟨rfl, rfl, by decide⟩ (by decide) rfl ?_
  intro g1 w1 h1 k1 z1 e1
  have zs_k1 := k1.size
  replace hw := hw.pure k1
  refine WL.toStr Try.underlying43 Try.underlying5 Try.underlying9 h1.rsl rfl rfl ?_
  refine WL.assign rfl rfl (WL.nil (WX.then_normal (WC.seq (WC.region (WL.assign rfl rfl (WL.nil (WX.then_normal (?_))))))))
  refine WC.seq (WC.seq (WC.region (WL.assign rfl rfl (WL.nil (WX.then_normal (WC.block (?_)))))))
  obtain ⟨Z, hZ⟩ : ∃ Z, Z = bs zeros := ⟨_, rfl⟩
  refine WC.loop (σ := Nat × Option Addr × Nat) (fun q => [(0, vi n), (3, .string Z), (4, .slice q.2.1 (List.replicate q.1 Z).length q.2.2), (5, vi q.1)])
    (fun q w' => q.1 ≤ n ∧ Row (fun x => w.heap.size ≤ x) w' 9 es q.2.1 q.2.2 (List.replicate q.1 Z) ∧ Chg Nob w w') (fun q => n - q.1) (0, none, 0) ⟨rfl, by rw [hZ]; rfl, rfl, rfl, trivial⟩ ⟨Nat.zero_le _, Row.nil _ _ _ _, hw⟩ ?_
  clear hw h1
  rintro ⟨i, ao, c⟩ w2 ⟨hi, hO, hw⟩
  simp only at hi hO
  dsimp only
  refine WC.seq (WC.seq (WC.region (WL.move rfl rfl (WL.move rfl rfl (?_)))))
  refine WL.lss? rfl rfl rfl (fun h10 => ?_) (fun h10 => ?_)
  ·
    refine WL.nil (WX.then_normal (WC.cond_true rfl (WC.skip (WX.then_normal (WC.seq (WC.block (WC.region (?_))))))))
    refine WL.move rfl rfl (WL.move rfl rfl (?_))
    refine WL.build (e := es) [Z] Try.underlying61 Try.sizeOf9 Try.zeroValue9 rfl rfl rfl (by first | (simp [Value.cells]; done) | (simp [Value.cells] <;> rfl) | (simp [Value.cells, eb, ei, es, ebool, e32, e64]; done)) (by decide) rfl ?_
    intro a_b15 w_b15 b15 l_b15 z_b15 k_b15
    have zs_k_b15 := k_b15.size
    replace hO := hO.pure k_b15
    replace hw := hw.pure k_b15
    refine WL.append (e := es) (xs := List.replicate i Z) (S := fun x => w.heap.size ≤ x) info_9 rfl Try.underlying61 rfl rfl hO (b15.rsl.src Try.underlying61) (by constructor <;> (simp only [List.length_cons, List.length_nil, List.length_replicate]; omega)) (fun x hx => by have := hw.size; omega) rfl ?_
    intro a9 c9 w9 hO9 g9 n9
    have k9 := g9.chg
    replace hw := hw.chg k9 (fun x h1 h2 => by have := h2.2; omega)
    have e9 : List.replicate i Z ++ [Z] = List.replicate (i + 1) Z := by rw [List.replicate_succ']
    rw [e9] at hO9 ⊢
    refine WL.assign rfl rfl (WL.nil (WX.block_normal (WX.then_normal (WC.region (WL.move rfl rfl (WL.add64 rfl rfl (by first | omega | (constructor <;> omega)) rfl (WL.assign rfl rfl (?_))))))))
    refine WL.nil (?_)
    exact WX.loop_next (i + 1, a9, c9) ⟨rfl, rfl, rfl, rfl, trivial⟩ ⟨by show i + 1 ≤ _; omega, hO9, hw⟩ (by show n - (i + 1) < n - i; omega)
  ·
    refine WL.nil (WX.then_normal (WC.cond_false rfl (WC.exit (WX.then_exit (WX.then_exit (WX.block_here (WX.then_normal (?_))))))))
    refine WC.seq (WC.region (WL.move rfl rfl (WL.assign rfl rfl (WL.nil (WX.then_normal (WC.ret (?_)))))))
    refine WX.ret1 (.inl rfl) Try.results23 rfl ?_
    have hin : i = n := by omega
    subst hin
    obtain ⟨g, rfl⟩ := hO.place0 (j := 0) (by rw [List.length_replicate]; omega)
    refine ⟨_, rfl, ⟨g, c, by rw [List.length_replicate], ?_, hO.at_ _ rfl⟩, hw⟩
    rw [← hZ]
    exact ⟨fun a ea => by injection ea with ea; subst ea; rfl, hO.own⟩
theorem replace_lf {s : RA} (h : s.ok) {d : Int} (hd : 0 ≤ d) (d' a' : Nat) (ha : a' < s.sn) : lf (replaceS s d) d' a' = if d' = d.toNat then bs zeros else lf s d' a' := by
  rw [lf, lf, lastS, lastS, show (replaceS s d).last = delN s.last d s.sn from rfl, delN_get h.nd]
  by_cases e : d' = d.toNat
  · rw [if_pos e, if_pos ⟨by show (d' : Int) = d; omega, by show (0 : Int) ≤ a'; omega, by show (a' : Int) < s.sn; omega⟩]
    rfl
  · rw [if_neg e, if_neg (fun h => e (by have h1 : (d' : Int) = d := h.1; omega))]
set_option maxHeartbeats 2000000 in
theorem dReplace_calls {A : Nat → Prop} {w : World} {D : Nat} {s : RA} (h : RD A w D s) (hn : s.waits.length ≤ 1000000) (d : Int) :
    Calls Try.prog 31 [ptr D, vi d].toArray w (Ret fun v w' => v = vi (if isS s d then 0 else 1) ∧ RD (fun x => A x ∨ w.heap.size ≤ x) w' D (if isS s d then replaceS s d else s) ∧ Chg A w w') := by
  have aD := h.aD
  have hok0 := h.ok
  have hok := replaceS_ok h.ok d
  have hgl := h.ok.gl
  have hsn := h.ok.sn
  have hwin := h.win
  have hw := Chg.refl A w
  refine Calls.of_WC Try.func31 rfl Try.ntmps31 (by simp) ?_
  refine WC.seq (WC.region (WL.assign rfl rfl (WL.nil (WX.then_normal (WC.seq (WC.seq (WC.region (?_))))))))
  refine WL.move rfl rfl (WL.move rfl rfl (?_))
  refine WL.call eg_34 rfl rfl (dIs_calls h d) ?_
  rintro v w1 ⟨rfl, k1⟩
  have zs_k1 := k1.size
  replace h := h.pure k1
  replace hw := hw.pure k1
  by_cases h7 : isS s d
  ·
    rw [decide_eq_true h7]
    refine WL.not rfl rfl (WL.nil (WX.then_normal (WC.cond_false rfl (WC.skip (WX.then_normal (WC.seq (WC.region (?_))))))))
    refine WL.move rfl rfl (WL.move rfl rfl (?_))
    refine WL.call eg_44 rfl rfl (dForget_calls h hn d) ?_
    rintro v w2 ⟨rfl, h2, k2⟩
    replace hw := hw.trans k2 (fun _ _ h => h)
    replace h2 := h2.old
    obtain ⟨la, lc, ls, ga, gc, wa, wc, hB, hI⟩ := h2.ex
    have hlen : ls.length = s.dn := hI.ld.len
    have hd0 := h7.1
    have hd1 := h7.2
    have hlt : d.toNat < s.gone.length := by rw [hgl]; omega
    obtain ⟨g, hg⟩ := hI.gone.place0 (j := d.toNat) hlt
    subst hg
    obtain ⟨hgA, hgw⟩ : (A g ∨ w1.heap.size ≤ g) ∧ g < w2.heap.size := hI.gone.at_ _ rfl
    have zk2 := k2.size
    have hDw2 := hB.lt
    refine WL.nil (WX.then_normal (WC.seq (WC.region (WL.move rfl rfl (WL.nilCheck rfl rfl (WL.fieldAddr (fld_60_1) rfl rfl (WL.loadB Try.isAgg48 hB rfl rfl rfl (?_))))))))
    refine WL.move rfl rfl (?_)
    refine WL.index (sz := 1) (j := d.toNat) Try.underlying48 Try.sizeOf4 rfl rfl (by omega) hlt rfl ?_
    refine WL.storeRow (z := false) d.toNat Try.sizeOf4 hI.gone rfl rfl rfl (by show 0 + d.toNat * 1 = d.toNat; omega) hlt rfl ?_
    intro w5 z5 hG5 k5
    replace hB := hB.chg k5 (fun e => hI.neG hB ⟨_, rfl, e⟩)
    replace hI := hI.setGone hG5 k5
    have hw5 : Chg A w w5 := hw.chg k5 (fun x h1 hx => by
      rcases hgA with h3 | h3
      ·
        rw [show x = g from hx]; exact h3
      ·
        exfalso
        have h4 : x = g := hx
        omega)
    refine WL.nil (WX.then_normal (WC.seq (?_)))
    obtain ⟨⟨rao, rc, rxs⟩, hr⟩ : ∃ r, ls[d.toNat]? = some r := ⟨_, List.getElem?_eq_getElem (by omega)⟩
    have hrl : rxs.length = s.sn := hI.ld.rlen hr
    obtain ⟨go, hgo⟩ := hI.ld.outer.place0 (j := d.toNat) (by omega)
    subst hgo
    obtain ⟨hgoA, hgow⟩ : (A go ∨ w1.heap.size ≤ go) ∧ go < w2.heap.size := hI.ld.outer.at_ _ rfl
    have hkgo : kb w5 go = some (some 61) := (hI.ld.outer.kb.at_ _ rfl).2
    have hDgo : D ≠ go := fun e => hI.neL hB ⟨_, rfl, e⟩
    have hB0 := hB
    have hrow : Row (fun x => x = go) w5 61 esr (some ⟨go, 0, none⟩) lc ls := ⟨fun a ea => by injection ea with ea; subst ea; rfl, hI.ld.outer.own⟩
    have hk6 := Chg.refl (fun x => x = go) w5
    have hI5 := hI
    refine WC.draw (fun x => x = go) [0, 1, 2, 3, 4, 5, 6, 7, 8, 9, 14] [10, 11, 12, 13, 15] mixed rfl rfl (fun wd_1 kd_1 zd_1 => ?_)
    have zs_kd_1 := kd_1.size
    replace hB := hB.pure kd_1
    replace hI := hI.pure kd_1
    replace hrow := hrow.pure kd_1
    replace hk6 := hk6.pure kd_1
    apply DQ.step (E' := [(0, _)])
    case ho => rfl
    case hs => exact ⟨rfl, trivial⟩
    case hk => rfl
    case h1 =>
      intro wq_3 kq_3
      refine WL.move rfl rfl (?_)
      refine WL.nil ?_
      exact WX.one ⟨rfl, by first | exact Chg.refl _ _ | assumption⟩
    apply DQ.step (E' := [(18, _)])
    case ho => rfl
    case hs => exact ⟨rfl, trivial⟩
    case hk => rfl
    case h1 =>
      intro wq_4 kq_4
      refine WL.nilCheck rfl rfl (?_)
      refine WL.nil ?_
      exact WX.one ⟨rfl, by first | exact Chg.refl _ _ | assumption⟩
    apply DQ.step (E' := [(19, _)])
    case ho => rfl
    case hs => exact ⟨rfl, trivial⟩
    case hk => rfl
    case h1 =>
      intro wq_5 kq_5
      refine WL.fieldAddr (fld_60_0) rfl rfl (?_)
      refine WL.nil ?_
      exact WX.one ⟨rfl, by first | exact Chg.refl _ _ | assumption⟩
    apply DQ.step (E' := [(20, _)])
    case ho => rfl
    case hs => exact ⟨rfl, trivial⟩
    case hk => rfl
    case h1 =>
      intro wq_6 kq_6
      have zs_kq_6 := kq_6.size
      replace hB := hB.chg kq_6 (by first | (intro x h1 h2; exact h2) | (intro x h1 h2; have h3 : _ = _ := h2; exfalso; omega) | (intro b h1 h2 h3; have h4 : _ = _ := h3; (try dsimp only at h2); exfalso; omega) | (intro h1; have h2 : _ = _ := h1; exfalso; omega) | (intro h1; have h2 : _ ≤ _ := h1; exfalso; omega) | (intros; exfalso; (try dsimp only at *); omega) | (intro b h1 h2 h3; exfalso; have h4 := h3.2; (try dsimp only at *); omega) | (intro h1; exfalso; have h4 := h1.2; (try dsimp only at *); omega))
      refine WL.loadB Try.isAgg57 hB rfl rfl rfl (?_)
      refine WL.nil ?_
      exact WX.one ⟨rfl, by first | exact Chg.refl _ _ | assumption⟩
    apply DQ.step (E' := [(1, _)])
    case ho => rfl
    case hs => exact ⟨rfl, trivial⟩
    case hk => rfl
    case h1 =>
      intro wq_7 kq_7
      refine WL.move rfl rfl (?_)
      refine WL.nil ?_
      exact WX.one ⟨rfl, by first | exact Chg.refl _ _ | assumption⟩
    apply DQ.step (E' := [(0, _)])
    case ho => rfl
    case hs => exact ⟨rfl, trivial⟩
    case hk => rfl
    case h1 =>
      intro wq_8 kq_8
      refine WL.move rfl rfl (?_)
      refine WL.nil ?_
      exact WX.one ⟨rfl, by first | exact Chg.refl _ _ | assumption⟩
    apply DQ.step (E' := [(23, _)])
    case ho => rfl
    case hs => exact ⟨rfl, trivial⟩
    case hk => rfl
    case h1 =>
      intro wq_9 kq_9
      refine WL.nilCheck rfl rfl (?_)
      refine WL.nil ?_
      exact WX.one ⟨rfl, by first | exact Chg.refl _ _ | assumption⟩
    apply DQ.step (E' := [(24, _)])
    case ho => rfl
    case hs => exact ⟨rfl, trivial⟩
    case hk => rfl
    case h1 =>
      intro wq_10 kq_10
      refine WL.fieldAddr (fld_60_0) rfl rfl (?_)
      refine WL.nil ?_
      exact WX.one ⟨rfl, by first | exact Chg.refl _ _ | assumption⟩
    apply DQ.step (E' := [(25, _)])
    case ho => rfl
    case hs => exact ⟨rfl, trivial⟩
    case hk => rfl
    case h1 =>
      intro wq_11 kq_11
      have zs_kq_11 := kq_11.size
      replace hB := hB.chg kq_11 (by first | (intro x h1 h2; exact h2) | (intro x h1 h2; have h3 : _ = _ := h2; exfalso; omega) | (intro b h1 h2 h3; have h4 : _ = _ := h3; (try dsimp only at h2); exfalso; omega) | (intro h1; have h2 : _ = _ := h1; exfalso; omega) | (intro h1; have h2 : _ ≤ _ := h1; exfalso; omega) | (intros; exfalso; (try dsimp only at *); omega) | (intro b h1 h2 h3; exfalso; have h4 := h3.2; (try dsimp only at *); omega) | (intro h1; exfalso; have h4 := h1.2; (try dsimp only at *); omega))
      refine WL.loadB Try.isAgg57 hB rfl rfl rfl (?_)
      refine WL.nil ?_
      exact WX.one ⟨rfl, by first | exact Chg.refl _ _ | assumption⟩
    apply DQ.step (E' := [(1, _)])
    case ho => rfl
    case hs => exact ⟨rfl, trivial⟩
    case hk => rfl
    case h1 =>
      intro wq_12 kq_12
      refine WL.move rfl rfl (?_)
      refine WL.nil ?_
      exact WX.one ⟨rfl, by first | exact Chg.refl _ _ | assumption⟩
    apply DQ.step (E' := [(21, _), (22, _)])
    case ho => rfl
    case hs => exact ⟨rfl, rfl, trivial⟩
    case hk => rfl
    case h1 =>
      intro wq_13 kq_13
      have zs_kq_13 := kq_13.size
      replace hB := hB.chg kq_13 (by first | (intro x h1 h2; exact h2) | (intro x h1 h2; have h3 : _ = _ := h2; exfalso; omega) | (intro b h1 h2 h3; have h4 : _ = _ := h3; (try dsimp only at h2); exfalso; omega) | (intro h1; have h2 : _ = _ := h1; exfalso; omega) | (intro h1; have h2 : _ ≤ _ := h1; exfalso; omega) | (intros; exfalso; (try dsimp only at *); omega) | (intro b h1 h2 h3; exfalso; have h4 := h3.2; (try dsimp only at *); omega) | (intro h1; exfalso; have h4 := h1.2; (try dsimp only at *); omega))
      refine WL.index (sz := 1) (j := d.toNat) Try.underlying57 Try.sizeOf61 rfl rfl (by omega) (show d.toNat < s.dn by omega) rfl ?_
      refine WL.nil ?_
      exact WX.one ⟨rfl, by first | exact Chg.refl _ _ | assumption⟩
    refine DQ.done (fun hd_2 => ?_)
    refine DL.step [(26, _), (27, _)] rfl ⟨rfl, rfl, trivial⟩ rfl (fun wq_14 kq_14 => ?_)
    have zs_kq_14 := kq_14.size
    replace hB := hB.pure kq_14
    replace hI := hI.pure kq_14
    replace hrow := hrow.pure kq_14
    replace hk6 := hk6.pure kq_14
    replace hd_2 := hd_2.pure kq_14
    refine WL.indexC (e := esr) hI.ld.outer.rsl Try.underlying57 Try.sizeOf61 (by show some (Value.slice _ s.dn _) = some (Value.slice _ ls.length _); rw [hlen]) rfl ⟨hr, (Int.toNat_of_nonneg hd0).symm⟩ rfl ?_
    refine WL.nil ?_
    refine WX.one ⟨hd_2, ?_⟩
    refine DL.step [(28, _)] rfl ⟨rfl, trivial⟩ rfl (fun wq_15 kq_15 => ?_)
    have zs_kq_15 := kq_15.size
    replace hB := hB.pure kq_15
    replace hI := hI.pure kq_15
    replace hrow := hrow.pure kq_15
    replace hk6 := hk6.pure kq_15
    replace hd_2 := hd_2.pure kq_15
    refine WL.load Try.isAgg61 rfl ((hI.ld.outer.rsl.cellsAt hr) 0 _ rfl) rfl ?_
    rw [show (⟨rao, rc, rxs⟩ : Sr).xs.length = s.sn from hrl]
    refine WL.nil ?_
    refine WX.one ⟨hd_2, ?_⟩
    refine DL.step [(29, _)] rfl ⟨rfl, trivial⟩ rfl (fun wq_16 kq_16 => ?_)
    have zs_kq_16 := kq_16.size
    replace hB := hB.pure kq_16
    replace hI := hI.pure kq_16
    replace hrow := hrow.pure kq_16
    replace hk6 := hk6.pure kq_16
    replace hd_2 := hd_2.pure kq_16
    refine WL.len Try.underlying61 rfl rfl (?_)
    refine WL.nil ?_
    refine WX.one ⟨hd_2, ?_⟩
    refine DL.step [(30, _)] rfl ⟨rfl, trivial⟩ rfl (fun wq_17 kq_17 => ?_)
    have zs_kq_17 := kq_17.size
    replace hB := hB.pure kq_17
    replace hI := hI.pure kq_17
    replace hrow := hrow.pure kq_17
    replace hk6 := hk6.pure kq_17
    replace hd_2 := hd_2.pure kq_17
    refine WL.call eg_23 rfl rfl (blank_calls _ s.sn hsn) ?_
    rintro v w7 ⟨⟨gn, cn, rfl, hbl, hgn⟩, k7⟩
    have zs_k7 := k7.size
    replace hB := hB.pure k7
    replace hI := hI.pure k7
    replace hrow := hrow.pure k7
    replace hk6 := hk6.pure k7
    replace hd_2 := hd_2.pure k7
    refine WL.nil ?_
    refine WX.one ⟨hd_2, ?_⟩
    refine DL.step [(32, _), (31, _)] rfl ⟨rfl, rfl, trivial⟩ rfl (fun wq_18 kq_18 => ?_)
    have zs_kq_18 := kq_18.size
    replace hB := hB.pure kq_18
    replace hI := hI.pure kq_18
    replace hrow := hrow.pure kq_18
    replace hk6 := hk6.pure kq_18
    replace hd_2 := hd_2.pure kq_18
    replace hbl := hbl.pure kq_18
    refine WL.storeRow (z := ⟨some ⟨gn, 0, none⟩, cn, List.replicate s.sn (bs zeros)⟩) d.toNat Try.sizeOf61 hrow rfl (by show [Value.slice (some ⟨gn, 0, none⟩) (List.replicate s.sn (bs zeros)).length cn] = _; rw [List.length_replicate]) rfl (by show 0 + d.toNat * 1 = d.toNat; omega) (by omega) rfl ?_
    intro w9 z9 hO9 k9
    have hL9 : LD (fun x => A x ∨ w.heap.size ≤ x) w9 (some ⟨go, 0, none⟩) lc (ls.set d.toNat ⟨some ⟨gn, 0, none⟩, cn, List.replicate s.sn (bs zeros)⟩) s.dn s.sn (lf (replaceS s d)) := by
      refine ((hI.ld.mono (S' := fun x => A x ∨ w.heap.size ≤ x) (fun x hx => hx.1.imp id (fun h => by omega))).put k9 (hO9.mono (fun x hx => by rw [show x = go from hx]; exact hgoA.imp id (fun h => by omega))) (.inr (by omega)) (fun e r he h9 => ?_) hbl (show d.toNat < s.dn by omega) (fun d' a' h1 h2 h3 => ?_) ?_)
      ·
        obtain ⟨g', e1, e2, e3⟩ := hI.ld.own e r he
        rw [e1] at h9
        injection h9 with h9
        injection h9 with h9
        have := e2.2
        omega
      ·
        rw [replace_lf hok0 hd0 d' a' h2, if_neg h3]
        rfl
      ·
        apply List.ext_getElem?
        intro j
        rcases Nat.lt_or_ge j s.sn with hj | hj
        ·
          rw [List.getElem?_replicate, if_pos hj, List.getElem?_map, List.getElem?_range (show j < (forgetS s d).sn from hj)]
          show _ = some (lf (replaceS s d) d.toNat j)
          rw [replace_lf hok0 hd0 d.toNat j hj, if_pos rfl]
        ·
          rw [List.getElem?_replicate, if_neg (by omega), List.getElem?_eq_none (by rw [List.length_map, List.length_range]; exact hj)]
    have hI9 : DI (fun x => A x ∨ w.heap.size ≤ x) w9 (some ⟨go, 0, none⟩) lc (ls.set d.toNat ⟨some ⟨gn, 0, none⟩, cn, List.replicate s.sn (bs zeros)⟩) (some ⟨g, 0, none⟩) gc wa wc s.dn s.sn (lf (replaceS s d)) (s.gone.set d.toNat false) (stay d s.waits) :=
      (hI.mono (S' := fun x => A x ∨ w.heap.size ≤ x) (fun x hx => hx.1.imp id (fun h => by omega))).setLd hL9 k9 (fun b hb e => .inr (by rw [show b = go from e]; exact (hI.ld.outer.kb.at_ _ rfl).2))
    have zs_k9 := k9.size
    replace hB := hB.chg k9 (by first | (intro x h1 h2; exact h2) | (intro x h1 h2; have h3 : _ = _ := h2; exfalso; omega) | (intro b h1 h2 h3; have h4 : _ = _ := h3; (try dsimp only at h2); exfalso; omega) | (intro h1; have h2 : _ = _ := h1; exfalso; omega) | (intro h1; have h2 : _ ≤ _ := h1; exfalso; omega) | (intros; exfalso; (try dsimp only at *); omega) | (intro b h1 h2 h3; exfalso; have h4 := h3.2; (try dsimp only at *); omega) | (intro h1; exfalso; have h4 := h1.2; (try dsimp only at *); omega))
    replace hk6 := hk6.chg k9 (by first | (intro x h1 h2; exact h2) | (intro x h1 h2; have h3 : _ = _ := h2; exfalso; omega) | (intro b h1 h2 h3; have h4 : _ = _ := h3; (try dsimp only at h2); exfalso; omega) | (intro h1; have h2 : _ = _ := h1; exfalso; omega) | (intro h1; have h2 : _ ≤ _ := h1; exfalso; omega) | (intros; exfalso; (try dsimp only at *); omega) | (intro b h1 h2 h3; exfalso; have h4 := h3.2; (try dsimp only at *); omega) | (intro h1; exfalso; have h4 := h1.2; (try dsimp only at *); omega))
    replace hd_2 := hd_2.chg k9 (by first | (intro x h1 h2; exact h2) | (intro x h1 h2; have h3 : _ = _ := h2; exfalso; omega) | (intro b h1 h2 h3; have h4 : _ = _ := h3; (try dsimp only at h2); exfalso; omega) | (intro h1; have h2 : _ = _ := h1; exfalso; omega) | (intro h1; have h2 : _ ≤ _ := h1; exfalso; omega) | (intros; exfalso; (try dsimp only at *); omega) | (intro b h1 h2 h3; exfalso; have h4 := h3.2; (try dsimp only at *); omega) | (intro h1; exfalso; have h4 := h1.2; (try dsimp only at *); omega))
    refine WL.nil ?_
    refine WX.one0 (v := undef) ⟨hd_2, ?_⟩
    refine DL.done (fun we_19 ke_19 => ?_)
    have zs_ke_19 := ke_19.size
    replace hB := hB.pure ke_19
    replace hk6 := hk6.pure ke_19
    replace hd_2 := hd_2.pure ke_19
    replace hI9 := hI9.pure ke_19
    refine WX.then_normal (WC.seq (WC.region (WL.assign rfl rfl (WL.nil (WX.then_normal (WC.ret (?_)))))))
    refine WX.ret1 (.inl rfl) Try.results31 rfl ?_
    first
      | (rw [if_pos h7, if_pos h7]
         refine ⟨_, rfl, rfl, ⟨.inl aD, hok, (fun p hp => hwin p (List.mem_filter.1 hp).1), some ⟨go, 0, none⟩, lc, _, some ⟨g, 0, none⟩, gc, wa, wc, ?_, hI9⟩, hw5.chg hk6 (fun x h1 hx => ?_)⟩
         ·
           show Blk _ D 60 [.slice (some ⟨go, 0, none⟩) s.dn lc, .slice (some ⟨g, 0, none⟩) (s.gone.set d.toNat false).length gc, _, _, _]
           rw [List.length_set]
           exact hB
         ·
           rcases hgoA with h3 | h3
           ·
             rw [show x = go from hx]; exact h3
           ·
             exfalso
             have h4 : x = go := hx
             omega)
      | (rw [if_neg h7, if_neg h7]
         exact ⟨_, rfl, rfl, h.mono (fun x hx => .inl hx), hw⟩)
  ·
    rw [decide_eq_false h7]
    refine WL.not rfl rfl (WL.nil (WX.then_normal (WC.cond_true rfl (WC.seq (WC.region (WL.assign rfl rfl (WL.nil (?_))))))))
    refine WX.then_normal (WC.ret (WX.then_ret (?_)))
    refine WX.ret1 (.inl rfl) Try.results31 rfl ?_
    first
      | (rw [if_pos h7, if_pos h7]
         refine ⟨_, rfl, rfl, ⟨.inl aD, hok, (fun p hp => hwin p (List.mem_filter.1 hp).1), some ⟨go, 0, none⟩, lc, _, some ⟨g, 0, none⟩, gc, wa, wc, ?_, hI9⟩, hw5.chg hk6 (fun x h1 hx => ?_)⟩
         ·
           show Blk _ D 60 [.slice (some ⟨go, 0, none⟩) s.dn lc, .slice (some ⟨g, 0, none⟩) (s.gone.set d.toNat false).length gc, _, _, _]
           rw [List.length_set]
           exact hB
         ·
           rcases hgoA with h3 | h3
           ·
             rw [show x = go from hx]; exact h3
           ·
             exfalso
             have h4 : x = go := hx
             omega)
      | (rw [if_neg h7, if_neg h7]
         exact ⟨_, rfl, rfl, h.mono (fun x hx => .inl hx), hw⟩)
end Go.Proofs.Ytcdbkfaebgficaa
namespace Go.Proofs.Ytcdbkfaebgficaa
open Go.RowKit Go.HL

theorem rotten_calls (w : World) (b : List UInt8) (hb : b.length = 128) (n : Int) (hn : 0 ≤ n ∧ n ≤ 9223372036854775807) :
    Calls Try.prog 46 [.string (bs b), vi n].toArray w (Ret fun v w' => v = .string (bs (rotB b n)) ∧ Chg Nob w w') := by
  have hw := Chg.refl Nob w
  have hbd : (bs b).data.toList = b := rfl
  have hbz : (bs b).size = 128 := by rw [bs_size, hb]
  refine Calls.of_WC Try.func46 rfl Try.ntmps46 (by simp) ?_
  refine WC.seq (WC.region (WL.assign rfl rfl (WL.nil (WX.then_normal (WC.seq (WC.region (WL.move rfl rfl (?_))))))))
  refine WL.toBytes Try.underlying9 Try.underlying43 Try.underlying5 rfl (by omega) rfl ?_
  intro a_hq c_hq w_hq hq k_hq z_hq
  have zs_k_hq := k_hq.size
  replace hw := hw.pure k_hq
  rw [hbd] at hq ⊢
  obtain ⟨gq, rfl⟩ := hq.place0 (j := 0) (by omega)
  have hgq : w.heap.size ≤ gq := hq.at_ _ rfl
  refine WL.assign rfl rfl (WL.nil (WX.then_normal (WC.seq (WC.region (WL.move rfl rfl (WL.move rfl rfl (WL.rem64i rfl rfl (by constructor <;> omega) rfl (?_))))))))
  refine WL.move rfl rfl (WL.move rfl rfl (WL.rem64i rfl rfl (by constructor <;> omega) rfl (?_)))
  obtain ⟨kk, hk⟩ : ∃ kk, b[(n % 128).toNat]? = some kk := ⟨_, List.getElem?_eq_getElem (by omega)⟩
  refine WL.indexT (e := eb) Try.underlying43 Try.sizeOf5 hq.rsl rfl rfl ⟨hk, by omega⟩ rfl ?_
  intro bb oo hcc
  refine WL.load Try.isAgg5 rfl (hcc 0 _ rfl) rfl ?_
  refine WL.move rfl rfl (WL.quo64i rfl rfl (by refine ⟨?_, ?_, ?_⟩ <;> omega) rfl (WL.rem64i rfl rfl (by constructor <;> omega) rfl (WL.add64 rfl rfl (by first | omega | (constructor <;> omega)) rfl (WL.c_i64_u8 Try.underlying3 Try.underlying5 rfl rfl (WL.num rfl rfl (n_xor8 _ _ _ _) rfl (?_))))))
  refine WL.index (j := (n % 128).toNat) Try.underlying43 Try.sizeOf5 rfl rfl (by omega) (show (n % 128).toNat < b.length by omega) rfl ?_
  refine WL.storeRow (z := kk ^^^ B8 (1 + n / 128 % 255)) ((n % 128).toNat) Try.sizeOf5 hq rfl rfl rfl (by first | (simp; done) | (show 0 + _ * 1 = _; omega)) (by omega) rfl ?_
  intro w_1 zs_1 nr_1 k_1
  have zs_k_1 := k_1.size
  replace hw := hw.chg k_1 (by first | (intro x h1 h2; exact h2) | (intro x h1 h2; have h3 : _ = _ := h2; exfalso; omega) | (intro b h1 h2 h3; have h4 : _ = _ := h3; (try dsimp only at h2); exfalso; omega) | (intro h1; have h2 : _ = _ := h1; exfalso; omega) | (intro h1; have h2 : _ ≤ _ := h1; exfalso; omega) | (intros; exfalso; (try dsimp only at *); omega) | (intro b h1 h2 h3; exfalso; have h4 := h3.2; (try dsimp only at *); omega) | (intro h1; exfalso; have h4 := h1.2; (try dsimp only at *); omega))
  replace hq := nr_1
  refine WL.nil (WX.then_normal (WC.seq (WC.region (WL.move rfl rfl (?_)))))
  refine WL.toStr Try.underlying43 Try.underlying5 Try.underlying9 hq.rsl (by show some (Value.slice _ b.length _) = some (Value.slice _ (b.set _ _).length _); rw [List.length_set]) rfl ?_
  refine WL.assign rfl rfl (WL.nil (WX.then_normal (WC.ret (?_))))
  refine WX.ret1 (.inl rfl) Try.results46 rfl ?_
  refine ⟨_, rfl, ?_, hw⟩
  rw [rotB, List.getD_eq_getElem?_getD, hk]
  rfl
theorem wt_set {ws : List (Pl × List UInt8)} {j : Nat} {x : Pl × List UInt8} (hx : ws[j]? = some x) (r : List UInt8) : (ewt.all ws).take (0 + j * 3 + 2) ++ [.string (bs r)] ++ (ewt.all ws).drop (0 + j * 3 + 2 + 1) = ewt.all (ws.set j (x.1, r)) := by
  have hj := (List.getElem?_eq_some_iff.1 hx).1
  have hl : (ewt.all (ws.take j)).length = j * 3 := by
    rw [Enc.all_len, List.length_take, Nat.min_eq_left (Nat.le_of_lt hj)]
    rfl
  have e1 : ewt.all ws = ewt.all (ws.take j) ++ ([vi x.1.1, vi x.1.2, .string (bs x.2)] ++ ewt.all (ws.drop (j + 1))) := by
    conv => lhs; rw [split_at hx]
    rw [Enc.all_append, Enc.all_append, List.append_assoc]
    rfl
  have e2 : ewt.all (ws.set j (x.1, r)) = ewt.all (ws.take j) ++ ([vi x.1.1, vi x.1.2, .string (bs r)] ++ ewt.all (ws.drop (j + 1))) := by
    rw [List.set_eq_take_append_cons_drop, if_pos hj, Enc.all_append]
    rfl
  rw [e1, e2, Nat.zero_add, ← hl]
  exact splice3 _ _ _ _ _ _
theorem rot_lf {s : RA} {d a : Int} (hd : 0 ≤ d) (ha : 0 ≤ a) {n : Int} (hw : newV s.waits (d, a) = none) (d' a' : Nat) : lf (rotS s (d, a) n) d' a' = if d' = d.toNat ∧ a' = a.toNat then bs (rotB (heldS s (d, a)) n) else lf s d' a' := by
  have e : rotS s (d, a) n = putLast s (d, a) (rotB (heldS s (d, a)) n) := by
    unfold rotS putLast
    rw [hw]
  rw [e, putLast_lf d a hd ha]
theorem rot_waits {s : RA} {d a : Int} {n : Int} {i : Nat} {x : Pl × List UInt8} (hx : s.waits[i]? = some x) (hp : x.1 = (d, a)) (h : ∀ j y, i < j → s.waits[j]? = some y → y.1 ≠ (d, a)) : rotS s (d, a) n = { s with waits := s.waits.set i (x.1, rotB (heldS s (d, a)) n) } := by
  unfold rotS
  rw [newV_some hx hp h]
  show ({ s with waits := putW s.waits (d, a) (rotB (heldS s (d, a)) n) } : RA) = _
  rw [putW_some hx hp h, hp]
set_option maxHeartbeats 2000000 in
theorem dRot_calls {A : Nat → Prop} {w : World} {D : Nat} {s : RA} (h : RD A w D s) (hwl : s.waits.length ≤ 1000000) (d a n : Int) (hn : n ≤ 9223372036854775807) :
    Calls Try.prog 33 [ptr D, vi d, vi a, vi n].toArray w (Ret fun v w' => v = vi (rotE s d a n) ∧ RD A w' D (if rotE s d a n = 0 then rotS s (d, a) n else s) ∧ Chg A w w') := by
  have aD := h.aD
  have hok := h.ok
  have hrok := rotS_ok hok (d, a) n
  have hwin := h.win
  have hhl := heldS_len hok (d, a)
  have hw := Chg.refl A w
  refine Calls.of_WC Try.func33 rfl Try.ntmps33 (by simp) ?_
  refine WC.seq (WC.region (WL.assign rfl rfl (WL.nil (WX.then_normal (WC.seq (WC.seq (WC.region (?_))))))))
  refine WL.move rfl rfl (WL.move rfl rfl (WL.move rfl rfl (?_)))
  refine WL.call eg_41 rfl rfl (dIn_calls h d a) ?_
  rintro v w1 ⟨rfl, k1⟩
  have zs_k1 := k1.size
  replace h := h.pure k1
  replace hw := hw.pure k1
  by_cases h12 : inS s d a
  ·
    rw [decide_eq_true h12]
    have hd0 := h12.1
    have hd1 := h12.2.1
    have ha0 := h12.2.2.1
    have ha1 := h12.2.2.2
    refine WL.not rfl rfl (WL.move rfl rfl (WL.want rfl rfl rfl (WL.move rfl rfl (WL.want rfl rfl rfl (?_)))))
    by_cases h17 : n < 0
    ·
      have hE : rotE s d a n = 1 := by simp [rotE, h17]
      refine WL.lssT rfl rfl rfl (by first | rfl | omega | decide) ?_
      refine WL.pickF rfl rfl rfl (WL.nil (WX.then_normal (WC.cond_true rfl (WC.seq (WC.region (WL.assign rfl rfl (WL.nil (?_))))))))
      refine WX.then_normal (WC.ret (WX.then_ret (?_)))
      refine WX.ret1 (.inl rfl) Try.results33 rfl ?_
      first
        | (rw [hE]
           exact ⟨_, rfl, rfl, h, hw⟩)
        | (rw [hE, if_pos rfl]
           have hrw : (rotS s (d, a) n).waits = s.waits := by
             unfold rotS
             rw [newV_none h2]
           have hL := hI.ld.set (f' := lf (rotS s (d, a) n)) hr hk6 hkg hrow (fun d' a' _ _ => rot_lf hd0 ha0 (newV_none h2) d' a')
           have hI2 := (hI.setLd hL hk6 (fun b' _ e => .inl (by rw [show b' = g from e]; exact hkg))).mono (S' := A) (fun x hx => hx.1)
           have hcells : rotS s (d, a) n = putLast s (d, a) (rotB (heldS s (d, a)) n) := by
             unfold rotS putLast
             rw [newV_none h2]
           refine ⟨_, rfl, rfl, ?_, hw.chg hk6 (fun x _ hx => by rw [show x = g from hx]; exact hgA)⟩
           rw [hcells] at hI2 hrok ⊢
           exact ⟨aD, hrok, hwin, some ⟨go, 0, none⟩, lc, ls.set d.toNat ⟨some ⟨g, 0, none⟩, rc, rxs.set a.toNat (bs (rotB (heldS s (d, a)) n))⟩, ga, gc, wa, wc, hB, hI2⟩)
        | (have hR := rot_waits (n := n) h2 h3 h4
           rw [hE, if_pos rfl]
           refine ⟨_, rfl, rfl, ?_, hw.chg hk6 (fun x _ hx => by rw [show x = gw from hx]; exact hgwA)⟩
           rw [hR] at hrok ⊢
           have hI5 := hI.setWaits (hW5.mono (fun b e => by rw [show b = gw from e]; exact ⟨hgwA, hgww⟩)) hk6 (fun b e => ⟨_, rfl, e⟩)
           refine ⟨aD, hrok, fun p hp => ?_, la, lc, ls, ga, gc, some ⟨gw, 0, none⟩, wc, ?_, hI5.mono (fun x hx => hx.1)⟩
           ·
             rcases List.mem_or_eq_of_mem_set hp with h5 | h5
             ·
               exact hwin p h5
             ·
               rw [h5]
               exact hwin x (List.mem_of_getElem? h2)
           ·
             show Blk _ D 60 [_, _, .slice _ (s.waits.set i _).length wc, _, _]
             rw [List.length_set]
             exact hB)
    ·
      refine WL.lssF rfl rfl rfl (by first | rfl | omega | decide) ?_
      refine WL.pickF rfl rfl rfl (WL.nil (WX.then_normal (WC.cond_false rfl (WC.skip (WX.then_normal (WC.seq (WC.seq (?_))))))))
      refine WC.region (WL.move rfl rfl (WL.nilCheck rfl rfl (WL.fieldAddr (fld_60_1) rfl rfl (?_))))
      obtain ⟨la, lc, ls, ga, gc, wa, wc, hB, hI⟩ := h.ex
      refine WL.loadB Try.isAgg48 hB rfl rfl rfl ?_
      refine WL.move rfl rfl (?_)
      have hgd := goneS_at hok (d := d) ⟨h12.1, h12.2.1⟩
      refine WL.indexT (e := ebool) Try.underlying48 Try.sizeOf4 hI.gone.rsl rfl rfl ⟨hgd, by omega⟩ rfl ?_
      intro bb oo hcc
      refine WL.load Try.isAgg4 rfl (hcc 0 _ rfl) rfl ?_
      rcases hg : goneS s d with _ | _
      ·
        clear hB hI hcc
        refine WL.nil (WX.then_normal (WC.cond_false rfl (WC.skip (WX.then_normal (WC.seq (WC.region (WL.move rfl rfl (?_))))))))
        refine WL.move rfl rfl (WL.move rfl rfl (?_))
        have hE : rotE s d a n = 0 := by simp [rotE, h12, h17, hg]
        refine WL.call eg_42 rfl rfl (dNewest_calls h hwl d a) ?_
        rintro v w2 ⟨⟨k, rfl, hk⟩, k2⟩
        have zs_k2 := k2.size
        replace h := h.pure k2
        replace hw := hw.pure k2
        replace h := h.old
        have hDw := h.lt
        obtain ⟨la, lc, ls, ga, gc, wa, wc, hB, hI⟩ := h.ex
        have hlen := hI.ld.len
        have hB0 := hB
        refine WL.assign rfl rfl (WL.nil (WX.then_normal (WC.seq (WC.seq (WC.region (WL.move rfl rfl (?_)))))))
        rcases hk with ⟨h1, h2⟩ | ⟨i, x, h1, h2, h3, h4⟩
        ·
          refine WL.geqF rfl rfl rfl (by first | rfl | omega | decide) ?_
          refine WL.nil (WX.then_normal (WC.cond_false rfl (?_)))
          obtain ⟨⟨rao, rc, rxs⟩, hr⟩ : ∃ r, ls[d.toNat]? = some r := ⟨_, List.getElem?_eq_getElem (by omega)⟩
          have hrl : rxs.length = s.sn := hI.ld.rlen hr
          have hra : rxs[a.toNat]? = some (lf s d.toNat a.toNat) := hI.ld.at hr (by omega)
          have hlfh : lf s d.toNat a.toNat = bs (heldS s (d, a)) := by
            rw [heldS_eq, newV_none h2, lf, show ((d.toNat : Int)) = d from by omega, show ((a.toNat : Int)) = a from by omega]
          rw [hlfh] at hra
          obtain ⟨g, hg', ⟨hgA, hgw⟩, hrow⟩ := hI.ld.own _ _ hr
          have hg2 : rao = some ⟨g, 0, none⟩ := hg'
          subst hg2
          have hkg : kb w2 g = some (some 9) := (hrow.kb.at_ _ rfl).2
          have hDg : D ≠ g := fun e => by
            have h1 := hB.kb
            rw [e, hkg] at h1
            exact absurd h1 (by decide)
          obtain ⟨go, hgo⟩ := hI.ld.outer.place0 (j := d.toNat) (by omega)
          subst hgo
          have hkgo : kb w2 go = some (some 61) := (hI.ld.outer.kb.at_ _ rfl).2
          have hgog : go ≠ g := fun e => by
            rw [e, hkg] at hkgo
            exact absurd hkgo (by decide)
          have hOo : RSl (fun x => x ≠ g) w2 esr (some ⟨go, 0, none⟩) lc ls := ⟨fun _ a ea => by injection ea with ea; subst ea; exact hgog, hI.ld.outer.rsl.cap, hI.ld.outer.rsl.sl⟩
          have hk6 := Chg.refl (fun x => x = g) w2
          replace hrow : Row (fun x => x = g) w2 9 es (some ⟨g, 0, none⟩) rc rxs := hrow
          refine WC.draw (fun x => x = g) [0, 1, 2, 3, 4, 5, 6, 7, 8, 9, 10, 11, 12, 13, 14, 15, 18, 20] [16, 17, 19, 21] mixed rfl rfl (fun wd_1 kd_1 zd_1 => ?_)
          have zs_kd_1 := kd_1.size
          replace hB := hB.pure kd_1
          replace hOo := hOo.pure kd_1
          replace hrow := hrow.pure kd_1
          replace hk6 := hk6.pure kd_1
          apply DQ.step (E' := [(0, _)])
          case ho => rfl
          case hs => exact ⟨rfl, trivial⟩
          case hk => rfl
          case h1 =>
            intro wq_3 kq_3
            refine WL.move rfl rfl (?_)
            refine WL.nil ?_
            exact WX.one ⟨rfl, by first | exact Chg.refl _ _ | assumption⟩
          apply DQ.step (E' := [(49, _)])
          case ho => rfl
          case hs => exact ⟨rfl, trivial⟩
          case hk => rfl
          case h1 =>
            intro wq_4 kq_4
            refine WL.nilCheck rfl rfl (?_)
            refine WL.nil ?_
            exact WX.one ⟨rfl, by first | exact Chg.refl _ _ | assumption⟩
          apply DQ.step (E' := [(50, _)])
          case ho => rfl
          case hs => exact ⟨rfl, trivial⟩
          case hk => rfl
          case h1 =>
            intro wq_5 kq_5
            refine WL.fieldAddr (fld_60_0) rfl rfl (?_)
            refine WL.nil ?_
            exact WX.one ⟨rfl, by first | exact Chg.refl _ _ | assumption⟩
          apply DQ.step (E' := [(51, _)])
          case ho => rfl
          case hs => exact ⟨rfl, trivial⟩
          case hk => rfl
          case h1 =>
            intro wq_6 kq_6
            have zs_kq_6 := kq_6.size
            replace hB := hB.chg kq_6 (by first | (intro x h1 h2; exact h2) | (intro x h1 h2; have h3 : _ = _ := h2; exfalso; omega) | (intro b h1 h2 h3; have h4 : _ = _ := h3; (try dsimp only at h2); exfalso; omega) | (intro h1; have h2 : _ = _ := h1; exfalso; omega) | (intro h1; have h2 : _ ≤ _ := h1; exfalso; omega) | (intros; exfalso; (try dsimp only at *); omega) | (intro b h1 h2 h3; exfalso; have h4 := h3.2; (try dsimp only at *); omega) | (intro h1; exfalso; have h4 := h1.2; (try dsimp only at *); omega))
            replace hOo := hOo.chg kq_6 (by first | (intro x h1 h2; exact h2) | (intro x h1 h2; have h3 : _ = _ := h2; exfalso; omega) | (intro b h1 h2 h3; have h4 : _ = _ := h3; (try dsimp only at h2); exfalso; omega) | (intro h1; have h2 : _ = _ := h1; exfalso; omega) | (intro h1; have h2 : _ ≤ _ := h1; exfalso; omega) | (intros; exfalso; (try dsimp only at *); omega) | (intro b h1 h2 h3; exfalso; have h4 := h3.2; (try dsimp only at *); omega) | (intro h1; exfalso; have h4 := h1.2; (try dsimp only at *); omega))
            refine WL.loadB Try.isAgg57 hB rfl rfl rfl (?_)
            refine WL.nil ?_
            exact WX.one ⟨rfl, by first | exact Chg.refl _ _ | assumption⟩
          apply DQ.step (E' := [(1, _)])
          case ho => rfl
          case hs => exact ⟨rfl, trivial⟩
          case hk => rfl
          case h1 =>
            intro wq_7 kq_7
            refine WL.move rfl rfl (?_)
            refine WL.nil ?_
            exact WX.one ⟨rfl, by first | exact Chg.refl _ _ | assumption⟩
          apply DQ.step (E' := [(52, _), (53, _)])
          case ho => rfl
          case hs => exact ⟨rfl, rfl, trivial⟩
          case hk => rfl
          case h1 =>
            intro wq_8 kq_8
            have zs_kq_8 := kq_8.size
            replace hB := hB.chg kq_8 (by first | (intro x h1 h2; exact h2) | (intro x h1 h2; have h3 : _ = _ := h2; exfalso; omega) | (intro b h1 h2 h3; have h4 : _ = _ := h3; (try dsimp only at h2); exfalso; omega) | (intro h1; have h2 : _ = _ := h1; exfalso; omega) | (intro h1; have h2 : _ ≤ _ := h1; exfalso; omega) | (intros; exfalso; (try dsimp only at *); omega) | (intro b h1 h2 h3; exfalso; have h4 := h3.2; (try dsimp only at *); omega) | (intro h1; exfalso; have h4 := h1.2; (try dsimp only at *); omega))
            replace hOo := hOo.chg kq_8 (by first | (intro x h1 h2; exact h2) | (intro x h1 h2; have h3 : _ = _ := h2; exfalso; omega) | (intro b h1 h2 h3; have h4 : _ = _ := h3; (try dsimp only at h2); exfalso; omega) | (intro h1; have h2 : _ = _ := h1; exfalso; omega) | (intro h1; have h2 : _ ≤ _ := h1; exfalso; omega) | (intros; exfalso; (try dsimp only at *); omega) | (intro b h1 h2 h3; exfalso; have h4 := h3.2; (try dsimp only at *); omega) | (intro h1; exfalso; have h4 := h1.2; (try dsimp only at *); omega))
            refine WL.indexC (e := esr) hOo Try.underlying57 Try.sizeOf61 (by show some (Value.slice _ s.dn _) = some (Value.slice _ ls.length _); rw [hlen]) rfl ⟨hr, by omega⟩ rfl ?_
            refine WL.nil ?_
            exact WX.one ⟨rfl, by first | exact Chg.refl _ _ | assumption⟩
          apply DQ.step (E' := [(54, _)])
          case ho => rfl
          case hs => exact ⟨rfl, trivial⟩
          case hk => rfl
          case h1 =>
            intro wq_9 kq_9
            have zs_kq_9 := kq_9.size
            replace hB := hB.chg kq_9 (by first | (intro x h1 h2; exact h2) | (intro x h1 h2; have h3 : _ = _ := h2; exfalso; omega) | (intro b h1 h2 h3; have h4 : _ = _ := h3; (try dsimp only at h2); exfalso; omega) | (intro h1; have h2 : _ = _ := h1; exfalso; omega) | (intro h1; have h2 : _ ≤ _ := h1; exfalso; omega) | (intros; exfalso; (try dsimp only at *); omega) | (intro b h1 h2 h3; exfalso; have h4 := h3.2; (try dsimp only at *); omega) | (intro h1; exfalso; have h4 := h1.2; (try dsimp only at *); omega))
            replace hOo := hOo.chg kq_9 (by first | (intro x h1 h2; exact h2) | (intro x h1 h2; have h3 : _ = _ := h2; exfalso; omega) | (intro b h1 h2 h3; have h4 : _ = _ := h3; (try dsimp only at h2); exfalso; omega) | (intro h1; have h2 : _ = _ := h1; exfalso; omega) | (intro h1; have h2 : _ ≤ _ := h1; exfalso; omega) | (intros; exfalso; (try dsimp only at *); omega) | (intro b h1 h2 h3; exfalso; have h4 := h3.2; (try dsimp only at *); omega) | (intro h1; exfalso; have h4 := h1.2; (try dsimp only at *); omega))
            refine WL.load Try.isAgg61 rfl ((hOo.cellsAt hr) 0 _ rfl) rfl ?_
            refine WL.nil ?_
            exact WX.one ⟨rfl, by first | exact Chg.refl _ _ | assumption⟩
          apply DQ.step (E' := [(2, _)])
          case ho => rfl
          case hs => exact ⟨rfl, trivial⟩
          case hk => rfl
          case h1 =>
            intro wq_10 kq_10
            refine WL.move rfl rfl (?_)
            refine WL.nil ?_
            exact WX.one ⟨rfl, by first | exact Chg.refl _ _ | assumption⟩
          apply DQ.step (E' := [(0, _)])
          case ho => rfl
          case hs => exact ⟨rfl, trivial⟩
          case hk => rfl
          case h1 =>
            intro wq_11 kq_11
            refine WL.move rfl rfl (?_)
            refine WL.nil ?_
            exact WX.one ⟨rfl, by first | exact Chg.refl _ _ | assumption⟩
          apply DQ.step (E' := [(57, _)])
          case ho => rfl
          case hs => exact ⟨rfl, trivial⟩
          case hk => rfl
          case h1 =>
            intro wq_12 kq_12
            refine WL.nilCheck rfl rfl (?_)
            refine WL.nil ?_
            exact WX.one ⟨rfl, by first | exact Chg.refl _ _ | assumption⟩
          apply DQ.step (E' := [(58, _)])
          case ho => rfl
          case hs => exact ⟨rfl, trivial⟩
          case hk => rfl
          case h1 =>
            intro wq_13 kq_13
            refine WL.fieldAddr (fld_60_0) rfl rfl (?_)
            refine WL.nil ?_
            exact WX.one ⟨rfl, by first | exact Chg.refl _ _ | assumption⟩
          apply DQ.step (E' := [(59, _)])
          case ho => rfl
          case hs => exact ⟨rfl, trivial⟩
          case hk => rfl
          case h1 =>
            intro wq_14 kq_14
            have zs_kq_14 := kq_14.size
            replace hB := hB.chg kq_14 (by first | (intro x h1 h2; exact h2) | (intro x h1 h2; have h3 : _ = _ := h2; exfalso; omega) | (intro b h1 h2 h3; have h4 : _ = _ := h3; (try dsimp only at h2); exfalso; omega) | (intro h1; have h2 : _ = _ := h1; exfalso; omega) | (intro h1; have h2 : _ ≤ _ := h1; exfalso; omega) | (intros; exfalso; (try dsimp only at *); omega) | (intro b h1 h2 h3; exfalso; have h4 := h3.2; (try dsimp only at *); omega) | (intro h1; exfalso; have h4 := h1.2; (try dsimp only at *); omega))
            replace hOo := hOo.chg kq_14 (by first | (intro x h1 h2; exact h2) | (intro x h1 h2; have h3 : _ = _ := h2; exfalso; omega) | (intro b h1 h2 h3; have h4 : _ = _ := h3; (try dsimp only at h2); exfalso; omega) | (intro h1; have h2 : _ = _ := h1; exfalso; omega) | (intro h1; have h2 : _ ≤ _ := h1; exfalso; omega) | (intros; exfalso; (try dsimp only at *); omega) | (intro b h1 h2 h3; exfalso; have h4 := h3.2; (try dsimp only at *); omega) | (intro h1; exfalso; have h4 := h1.2; (try dsimp only at *); omega))
            refine WL.loadB Try.isAgg57 hB rfl rfl rfl (?_)
            refine WL.nil ?_
            exact WX.one ⟨rfl, by first | exact Chg.refl _ _ | assumption⟩
          apply DQ.step (E' := [(1, _)])
          case ho => rfl
          case hs => exact ⟨rfl, trivial⟩
          case hk => rfl
          case h1 =>
            intro wq_15 kq_15
            refine WL.move rfl rfl (?_)
            refine WL.nil ?_
            exact WX.one ⟨rfl, by first | exact Chg.refl _ _ | assumption⟩
          apply DQ.step (E' := [(60, _), (61, _)])
          case ho => rfl
          case hs => exact ⟨rfl, rfl, trivial⟩
          case hk => rfl
          case h1 =>
            intro wq_16 kq_16
            have zs_kq_16 := kq_16.size
            replace hB := hB.chg kq_16 (by first | (intro x h1 h2; exact h2) | (intro x h1 h2; have h3 : _ = _ := h2; exfalso; omega) | (intro b h1 h2 h3; have h4 : _ = _ := h3; (try dsimp only at h2); exfalso; omega) | (intro h1; have h2 : _ = _ := h1; exfalso; omega) | (intro h1; have h2 : _ ≤ _ := h1; exfalso; omega) | (intros; exfalso; (try dsimp only at *); omega) | (intro b h1 h2 h3; exfalso; have h4 := h3.2; (try dsimp only at *); omega) | (intro h1; exfalso; have h4 := h1.2; (try dsimp only at *); omega))
            replace hOo := hOo.chg kq_16 (by first | (intro x h1 h2; exact h2) | (intro x h1 h2; have h3 : _ = _ := h2; exfalso; omega) | (intro b h1 h2 h3; have h4 : _ = _ := h3; (try dsimp only at h2); exfalso; omega) | (intro h1; have h2 : _ = _ := h1; exfalso; omega) | (intro h1; have h2 : _ ≤ _ := h1; exfalso; omega) | (intros; exfalso; (try dsimp only at *); omega) | (intro b h1 h2 h3; exfalso; have h4 := h3.2; (try dsimp only at *); omega) | (intro h1; exfalso; have h4 := h1.2; (try dsimp only at *); omega))
            refine WL.indexC (e := esr) hOo Try.underlying57 Try.sizeOf61 (by show some (Value.slice _ s.dn _) = some (Value.slice _ ls.length _); rw [hlen]) rfl ⟨hr, by omega⟩ rfl ?_
            refine WL.nil ?_
            exact WX.one ⟨rfl, by first | exact Chg.refl _ _ | assumption⟩
          apply DQ.step (E' := [(62, _)])
          case ho => rfl
          case hs => exact ⟨rfl, trivial⟩
          case hk => rfl
          case h1 =>
            intro wq_17 kq_17
            have zs_kq_17 := kq_17.size
            replace hB := hB.chg kq_17 (by first | (intro x h1 h2; exact h2) | (intro x h1 h2; have h3 : _ = _ := h2; exfalso; omega) | (intro b h1 h2 h3; have h4 : _ = _ := h3; (try dsimp only at h2); exfalso; omega) | (intro h1; have h2 : _ = _ := h1; exfalso; omega) | (intro h1; have h2 : _ ≤ _ := h1; exfalso; omega) | (intros; exfalso; (try dsimp only at *); omega) | (intro b h1 h2 h3; exfalso; have h4 := h3.2; (try dsimp only at *); omega) | (intro h1; exfalso; have h4 := h1.2; (try dsimp only at *); omega))
            replace hOo := hOo.chg kq_17 (by first | (intro x h1 h2; exact h2) | (intro x h1 h2; have h3 : _ = _ := h2; exfalso; omega) | (intro b h1 h2 h3; have h4 : _ = _ := h3; (try dsimp only at h2); exfalso; omega) | (intro h1; have h2 : _ = _ := h1; exfalso; omega) | (intro h1; have h2 : _ ≤ _ := h1; exfalso; omega) | (intros; exfalso; (try dsimp only at *); omega) | (intro b h1 h2 h3; exfalso; have h4 := h3.2; (try dsimp only at *); omega) | (intro h1; exfalso; have h4 := h1.2; (try dsimp only at *); omega))
            refine WL.load Try.isAgg61 rfl ((hOo.cellsAt hr) 0 _ rfl) rfl ?_
            refine WL.nil ?_
            exact WX.one ⟨rfl, by first | exact Chg.refl _ _ | assumption⟩
          apply DQ.step (E' := [(2, _)])
          case ho => rfl
          case hs => exact ⟨rfl, trivial⟩
          case hk => rfl
          case h1 =>
            intro wq_18 kq_18
            refine WL.move rfl rfl (?_)
            refine WL.nil ?_
            exact WX.one ⟨rfl, by first | exact Chg.refl _ _ | assumption⟩
          apply DQ.step (E' := [(3, _)])
          case ho => rfl
          case hs => exact ⟨rfl, trivial⟩
          case hk => rfl
          case h1 =>
            intro wq_19 kq_19
            refine WL.move rfl rfl (?_)
            refine WL.nil ?_
            exact WX.one ⟨rfl, by first | exact Chg.refl _ _ | assumption⟩
          apply DQ.step (E' := [(55, _), (56, _)])
          case ho => rfl
          case hs => exact ⟨rfl, rfl, trivial⟩
          case hk => rfl
          case h1 =>
            intro wq_20 kq_20
            have zs_kq_20 := kq_20.size
            replace hB := hB.chg kq_20 (by first | (intro x h1 h2; exact h2) | (intro x h1 h2; have h3 : _ = _ := h2; exfalso; omega) | (intro b h1 h2 h3; have h4 : _ = _ := h3; (try dsimp only at h2); exfalso; omega) | (intro h1; have h2 : _ = _ := h1; exfalso; omega) | (intro h1; have h2 : _ ≤ _ := h1; exfalso; omega) | (intros; exfalso; (try dsimp only at *); omega) | (intro b h1 h2 h3; exfalso; have h4 := h3.2; (try dsimp only at *); omega) | (intro h1; exfalso; have h4 := h1.2; (try dsimp only at *); omega))
            replace hOo := hOo.chg kq_20 (by first | (intro x h1 h2; exact h2) | (intro x h1 h2; have h3 : _ = _ := h2; exfalso; omega) | (intro b h1 h2 h3; have h4 : _ = _ := h3; (try dsimp only at h2); exfalso; omega) | (intro h1; have h2 : _ = _ := h1; exfalso; omega) | (intro h1; have h2 : _ ≤ _ := h1; exfalso; omega) | (intros; exfalso; (try dsimp only at *); omega) | (intro b h1 h2 h3; exfalso; have h4 := h3.2; (try dsimp only at *); omega) | (intro h1; exfalso; have h4 := h1.2; (try dsimp only at *); omega))
            refine WL.index (sz := 1) (j := a.toNat) Try.underlying61 Try.sizeOf9 rfl rfl (by omega) (by show a.toNat < rxs.length; omega) rfl ?_
            refine WL.nil ?_
            exact WX.one ⟨rfl, by first | exact Chg.refl _ _ | assumption⟩
          refine DQ.done (fun hd_2 => ?_)
          refine DL.step [(63, _), (64, _)] rfl ⟨rfl, rfl, trivial⟩ rfl (fun wq_21 kq_21 => ?_)
          have zs_kq_21 := kq_21.size
          replace hB := hB.pure kq_21
          replace hOo := hOo.pure kq_21
          replace hrow := hrow.pure kq_21
          replace hk6 := hk6.pure kq_21
          replace hd_2 := hd_2.pure kq_21
          refine WL.indexC (e := es) hrow.rsl Try.underlying61 Try.sizeOf9 rfl rfl ⟨hra, by omega⟩ rfl ?_
          refine WL.nil ?_
          refine WX.one ⟨hd_2, ?_⟩
          refine DL.step [(65, _)] rfl ⟨rfl, trivial⟩ rfl (fun wq_22 kq_22 => ?_)
          have zs_kq_22 := kq_22.size
          replace hB := hB.pure kq_22
          replace hOo := hOo.pure kq_22
          replace hrow := hrow.pure kq_22
          replace hk6 := hk6.pure kq_22
          replace hd_2 := hd_2.pure kq_22
          refine WL.load Try.isAgg9 rfl ((hrow.rsl.cellsAt hra) 0 _ rfl) rfl ?_
          refine WL.nil ?_
          refine WX.one ⟨hd_2, ?_⟩
          refine DL.step [(66, _), (67, _)] rfl ⟨rfl, rfl, trivial⟩ rfl (fun wq_23 kq_23 => ?_)
          have zs_kq_23 := kq_23.size
          replace hB := hB.pure kq_23
          replace hOo := hOo.pure kq_23
          replace hrow := hrow.pure kq_23
          replace hk6 := hk6.pure kq_23
          replace hd_2 := hd_2.pure kq_23
          refine WL.call eg_46 rfl rfl (rotten_calls _ _ hhl n (by omega)) ?_
          rintro v w3 ⟨rfl, k3⟩
          have zs_k3 := k3.size
          replace hB := hB.pure k3
          replace hOo := hOo.pure k3
          replace hrow := hrow.pure k3
          replace hk6 := hk6.pure k3
          replace hd_2 := hd_2.pure k3
          refine WL.nil ?_
          refine WX.one ⟨hd_2, ?_⟩
          refine DL.step [(69, _), (68, _)] rfl ⟨rfl, rfl, trivial⟩ rfl (fun wq_24 kq_24 => ?_)
          have zs_kq_24 := kq_24.size
          replace hB := hB.pure kq_24
          replace hOo := hOo.pure kq_24
          replace hrow := hrow.pure kq_24
          replace hk6 := hk6.pure kq_24
          replace hd_2 := hd_2.pure kq_24
          refine WL.storeRow (z := bs (rotB (heldS s (d, a)) n)) (a.toNat) Try.sizeOf9 hrow rfl rfl rfl (by first | (simp; done) | (show 0 + _ * 1 = _; omega)) (by omega) rfl ?_
          intro w_25 zs_25 nr_25 k_25
          have zs_k_25 := k_25.size
          replace hB := hB.chg k_25 (by first | (intro x h1 h2; exact h2) | (intro x h1 h2; have h3 : _ = _ := h2; exfalso; omega) | (intro b h1 h2 h3; have h4 : _ = _ := h3; (try dsimp only at h2); exfalso; omega) | (intro h1; have h2 : _ = _ := h1; exfalso; omega) | (intro h1; have h2 : _ ≤ _ := h1; exfalso; omega) | (intros; exfalso; (try dsimp only at *); omega) | (intro b h1 h2 h3; exfalso; have h4 := h3.2; (try dsimp only at *); omega) | (intro h1; exfalso; have h4 := h1.2; (try dsimp only at *); omega))
          replace hOo := hOo.chg k_25 (by first | (intro x h1 h2; exact h2) | (intro x h1 h2; have h3 : _ = _ := h2; exfalso; omega) | (intro b h1 h2 h3; have h4 : _ = _ := h3; (try dsimp only at h2); exfalso; omega) | (intro h1; have h2 : _ = _ := h1; exfalso; omega) | (intro h1; have h2 : _ ≤ _ := h1; exfalso; omega) | (intros; exfalso; (try dsimp only at *); omega) | (intro b h1 h2 h3; exfalso; have h4 := h3.2; (try dsimp only at *); omega) | (intro h1; exfalso; have h4 := h1.2; (try dsimp only at *); omega))
          replace hk6 := hk6.chg k_25 (by first | (intro x h1 h2; exact h2) | (intro x h1 h2; have h3 : _ = _ := h2; exfalso; omega) | (intro b h1 h2 h3; have h4 : _ = _ := h3; (try dsimp only at h2); exfalso; omega) | (intro h1; have h2 : _ = _ := h1; exfalso; omega) | (intro h1; have h2 : _ ≤ _ := h1; exfalso; omega) | (intros; exfalso; (try dsimp only at *); omega) | (intro b h1 h2 h3; exfalso; have h4 := h3.2; (try dsimp only at *); omega) | (intro h1; exfalso; have h4 := h1.2; (try dsimp only at *); omega))
          replace hd_2 := hd_2.chg k_25 (by first | (intro x h1 h2; exact h2) | (intro x h1 h2; have h3 : _ = _ := h2; exfalso; omega) | (intro b h1 h2 h3; have h4 : _ = _ := h3; (try dsimp only at h2); exfalso; omega) | (intro h1; have h2 : _ = _ := h1; exfalso; omega) | (intro h1; have h2 : _ ≤ _ := h1; exfalso; omega) | (intros; exfalso; (try dsimp only at *); omega) | (intro b h1 h2 h3; exfalso; have h4 := h3.2; (try dsimp only at *); omega) | (intro h1; exfalso; have h4 := h1.2; (try dsimp only at *); omega))
          replace hrow := nr_25
          refine WL.nil ?_
          refine WX.one0 (v := undef) ⟨hd_2, ?_⟩
          refine DL.done (fun we_26 ke_26 => ?_)
          have zs_ke_26 := ke_26.size
          replace hB := hB.pure ke_26
          replace hOo := hOo.pure ke_26
          replace hrow := hrow.pure ke_26
          replace hk6 := hk6.pure ke_26
          replace hd_2 := hd_2.pure ke_26
          refine WX.then_normal (WC.seq (WC.region (WL.assign rfl rfl (WL.nil (WX.then_normal (WC.ret (?_)))))))
          refine WX.ret1 (.inl rfl) Try.results33 rfl ?_
          first
            | (rw [hE]
               exact ⟨_, rfl, rfl, h, hw⟩)
            | (rw [hE, if_pos rfl]
               have hrw : (rotS s (d, a) n).waits = s.waits := by
                 unfold rotS
                 rw [newV_none h2]
               have hL := hI.ld.set (f' := lf (rotS s (d, a) n)) hr hk6 hkg hrow (fun d' a' _ _ => rot_lf hd0 ha0 (newV_none h2) d' a')
               have hI2 := (hI.setLd hL hk6 (fun b' _ e => .inl (by rw [show b' = g from e]; exact hkg))).mono (S' := A) (fun x hx => hx.1)
               have hcells : rotS s (d, a) n = putLast s (d, a) (rotB (heldS s (d, a)) n) := by
                 unfold rotS putLast
                 rw [newV_none h2]
               refine ⟨_, rfl, rfl, ?_, hw.chg hk6 (fun x _ hx => by rw [show x = g from hx]; exact hgA)⟩
               rw [hcells] at hI2 hrok ⊢
               exact ⟨aD, hrok, hwin, some ⟨go, 0, none⟩, lc, ls.set d.toNat ⟨some ⟨g, 0, none⟩, rc, rxs.set a.toNat (bs (rotB (heldS s (d, a)) n))⟩, ga, gc, wa, wc, hB, hI2⟩)
            | (have hR := rot_waits (n := n) h2 h3 h4
               rw [hE, if_pos rfl]
               refine ⟨_, rfl, rfl, ?_, hw.chg hk6 (fun x _ hx => by rw [show x = gw from hx]; exact hgwA)⟩
               rw [hR] at hrok ⊢
               have hI5 := hI.setWaits (hW5.mono (fun b e => by rw [show b = gw from e]; exact ⟨hgwA, hgww⟩)) hk6 (fun b e => ⟨_, rfl, e⟩)
               refine ⟨aD, hrok, fun p hp => ?_, la, lc, ls, ga, gc, some ⟨gw, 0, none⟩, wc, ?_, hI5.mono (fun x hx => hx.1)⟩
               ·
                 rcases List.mem_or_eq_of_mem_set hp with h5 | h5
                 ·
                   exact hwin p h5
                 ·
                   rw [h5]
                   exact hwin x (List.mem_of_getElem? h2)
               ·
                 show Blk _ D 60 [_, _, .slice _ (s.waits.set i _).length wc, _, _]
                 rw [List.length_set]
                 exact hB)
        ·
          refine WL.geqT rfl rfl rfl (by first | rfl | omega | decide) ?_
          refine WL.nil (WX.then_normal (WC.cond_true rfl (?_)))
          subst h1
          have hxl := (List.getElem?_eq_some_iff.1 h2).1
          obtain ⟨gw, hgw⟩ := hI.waits.place0 (j := i) hxl
          subst hgw
          obtain ⟨hgwA, hgww⟩ : A gw ∧ gw < w2.heap.size := hI.waits.at_ _ rfl
          have hx2 : x.2 = heldS s (d, a) := by rw [heldS_eq, newV_some h2 h3 h4]
          have hDg : D ≠ gw := fun e => hI.neW hB ⟨_, rfl, e⟩
          have hrow : Row (fun x => x = gw) w2 69 ewt (some ⟨gw, 0, none⟩) wc s.waits := ⟨fun a ea => by injection ea with ea; subst ea; rfl, hI.waits.own⟩
          have hk6 := Chg.refl (fun x => x = gw) w2
          refine WC.draw (fun x => x = gw) [0, 1, 2, 3, 4, 5, 6, 7, 8, 9, 13, 15, 16] [10, 11, 12, 14, 17] mixed rfl rfl (fun wd_1 kd_1 zd_1 => ?_)
          have zs_kd_1 := kd_1.size
          replace hB := hB.pure kd_1
          replace hrow := hrow.pure kd_1
          replace hk6 := hk6.pure kd_1
          apply DQ.step (E' := [(0, _)])
          case ho => rfl
          case hs => exact ⟨rfl, trivial⟩
          case hk => rfl
          case h1 =>
            intro wq_3 kq_3
            refine WL.move rfl rfl (?_)
            refine WL.nil ?_
            exact WX.one ⟨rfl, by first | exact Chg.refl _ _ | assumption⟩
          apply DQ.step (E' := [(32, _)])
          case ho => rfl
          case hs => exact ⟨rfl, trivial⟩
          case hk => rfl
          case h1 =>
            intro wq_4 kq_4
            refine WL.nilCheck rfl rfl (?_)
            refine WL.nil ?_
            exact WX.one ⟨rfl, by first | exact Chg.refl _ _ | assumption⟩
          apply DQ.step (E' := [(33, _)])
          case ho => rfl
          case hs => exact ⟨rfl, trivial⟩
          case hk => rfl
          case h1 =>
            intro wq_5 kq_5
            refine WL.fieldAddr (fld_60_2) rfl rfl (?_)
            refine WL.nil ?_
            exact WX.one ⟨rfl, by first | exact Chg.refl _ _ | assumption⟩
          apply DQ.step (E' := [(34, _)])
          case ho => rfl
          case hs => exact ⟨rfl, trivial⟩
          case hk => rfl
          case h1 =>
            intro wq_6 kq_6
            have zs_kq_6 := kq_6.size
            replace hB := hB.chg kq_6 (by first | (intro x h1 h2; exact h2) | (intro x h1 h2; have h3 : _ = _ := h2; exfalso; omega) | (intro b h1 h2 h3; have h4 : _ = _ := h3; (try dsimp only at h2); exfalso; omega) | (intro h1; have h2 : _ = _ := h1; exfalso; omega) | (intro h1; have h2 : _ ≤ _ := h1; exfalso; omega) | (intros; exfalso; (try dsimp only at *); omega) | (intro b h1 h2 h3; exfalso; have h4 := h3.2; (try dsimp only at *); omega) | (intro h1; exfalso; have h4 := h1.2; (try dsimp only at *); omega))
            refine WL.loadB Try.isAgg58 hB rfl rfl rfl (?_)
            refine WL.nil ?_
            exact WX.one ⟨rfl, by first | exact Chg.refl _ _ | assumption⟩
          apply DQ.step (E' := [(9, _)])
          case ho => rfl
          case hs => exact ⟨rfl, trivial⟩
          case hk => rfl
          case h1 =>
            intro wq_7 kq_7
            refine WL.move rfl rfl (?_)
            refine WL.nil ?_
            exact WX.one ⟨rfl, by first | exact Chg.refl _ _ | assumption⟩
          apply DQ.step (E' := [(0, _)])
          case ho => rfl
          case hs => exact ⟨rfl, trivial⟩
          case hk => rfl
          case h1 =>
            intro wq_8 kq_8
            refine WL.move rfl rfl (?_)
            refine WL.nil ?_
            exact WX.one ⟨rfl, by first | exact Chg.refl _ _ | assumption⟩
          apply DQ.step (E' := [(37, _)])
          case ho => rfl
          case hs => exact ⟨rfl, trivial⟩
          case hk => rfl
          case h1 =>
            intro wq_9 kq_9
            refine WL.nilCheck rfl rfl (?_)
            refine WL.nil ?_
            exact WX.one ⟨rfl, by first | exact Chg.refl _ _ | assumption⟩
          apply DQ.step (E' := [(38, _)])
          case ho => rfl
          case hs => exact ⟨rfl, trivial⟩
          case hk => rfl
          case h1 =>
            intro wq_10 kq_10
            refine WL.fieldAddr (fld_60_2) rfl rfl (?_)
            refine WL.nil ?_
            exact WX.one ⟨rfl, by first | exact Chg.refl _ _ | assumption⟩
          apply DQ.step (E' := [(39, _)])
          case ho => rfl
          case hs => exact ⟨rfl, trivial⟩
          case hk => rfl
          case h1 =>
            intro wq_11 kq_11
            have zs_kq_11 := kq_11.size
            replace hB := hB.chg kq_11 (by first | (intro x h1 h2; exact h2) | (intro x h1 h2; have h3 : _ = _ := h2; exfalso; omega) | (intro b h1 h2 h3; have h4 : _ = _ := h3; (try dsimp only at h2); exfalso; omega) | (intro h1; have h2 : _ = _ := h1; exfalso; omega) | (intro h1; have h2 : _ ≤ _ := h1; exfalso; omega) | (intros; exfalso; (try dsimp only at *); omega) | (intro b h1 h2 h3; exfalso; have h4 := h3.2; (try dsimp only at *); omega) | (intro h1; exfalso; have h4 := h1.2; (try dsimp only at *); omega))
            refine WL.loadB Try.isAgg58 hB rfl rfl rfl (?_)
            refine WL.nil ?_
            exact WX.one ⟨rfl, by first | exact Chg.refl _ _ | assumption⟩
          apply DQ.step (E' := [(9, _)])
          case ho => rfl
          case hs => exact ⟨rfl, trivial⟩
          case hk => rfl
          case h1 =>
            intro wq_12 kq_12
            refine WL.move rfl rfl (?_)
            refine WL.nil ?_
            exact WX.one ⟨rfl, by first | exact Chg.refl _ _ | assumption⟩
          apply DQ.step (E' := [(3, _)])
          case ho => rfl
          case hs => exact ⟨rfl, trivial⟩
          case hk => rfl
          case h1 =>
            intro wq_13 kq_13
            refine WL.move rfl rfl (?_)
            refine WL.nil ?_
            exact WX.one ⟨rfl, by first | exact Chg.refl _ _ | assumption⟩
          apply DQ.step (E' := [(35, _), (36, _)])
          case ho => rfl
          case hs => exact ⟨rfl, rfl, trivial⟩
          case hk => rfl
          case h1 =>
            intro wq_14 kq_14
            have zs_kq_14 := kq_14.size
            replace hB := hB.chg kq_14 (by first | (intro x h1 h2; exact h2) | (intro x h1 h2; have h3 : _ = _ := h2; exfalso; omega) | (intro b h1 h2 h3; have h4 : _ = _ := h3; (try dsimp only at h2); exfalso; omega) | (intro h1; have h2 : _ = _ := h1; exfalso; omega) | (intro h1; have h2 : _ ≤ _ := h1; exfalso; omega) | (intros; exfalso; (try dsimp only at *); omega) | (intro b h1 h2 h3; exfalso; have h4 := h3.2; (try dsimp only at *); omega) | (intro h1; exfalso; have h4 := h1.2; (try dsimp only at *); omega))
            refine WL.index (sz := 3) (j := i) Try.underlying58 Try.sizeOf69 rfl rfl rfl hxl rfl ?_
            refine WL.nil ?_
            exact WX.one ⟨rfl, by first | exact Chg.refl _ _ | assumption⟩
          apply DQ.step (E' := [(47, _)])
          case ho => rfl
          case hs => exact ⟨rfl, trivial⟩
          case hk => rfl
          case h1 =>
            intro wq_15 kq_15
            refine WL.fieldAddr (fld_69_2) rfl rfl (?_)
            refine WL.nil ?_
            exact WX.one ⟨rfl, by first | exact Chg.refl _ _ | assumption⟩
          refine DQ.done (fun hd_2 => ?_)
          refine DL.step [(40, _), (41, _)] rfl ⟨rfl, rfl, trivial⟩ rfl (fun wq_16 kq_16 => ?_)
          have zs_kq_16 := kq_16.size
          replace hB := hB.pure kq_16
          replace hrow := hrow.pure kq_16
          replace hk6 := hk6.pure kq_16
          replace hd_2 := hd_2.pure kq_16
          refine WL.indexC hrow.rsl Try.underlying58 Try.sizeOf69 rfl rfl ⟨h2, rfl⟩ rfl ?_
          refine WL.nil ?_
          refine WX.one ⟨hd_2, ?_⟩
          refine DL.step [(42, _)] rfl ⟨rfl, trivial⟩ rfl (fun wq_17 kq_17 => ?_)
          have zs_kq_17 := kq_17.size
          replace hB := hB.pure kq_17
          replace hrow := hrow.pure kq_17
          replace hk6 := hk6.pure kq_17
          replace hd_2 := hd_2.pure kq_17
          refine WL.fieldAddr (fld_69_2) rfl rfl (?_)
          refine WL.nil ?_
          refine WX.one ⟨hd_2, ?_⟩
          refine DL.step [(43, _)] rfl ⟨rfl, trivial⟩ rfl (fun wq_18 kq_18 => ?_)
          have zs_kq_18 := kq_18.size
          replace hB := hB.pure kq_18
          replace hrow := hrow.pure kq_18
          replace hk6 := hk6.pure kq_18
          replace hd_2 := hd_2.pure kq_18
          refine WL.load Try.isAgg9 rfl ((hrow.rsl.cellsAt h2) 2 _ rfl) rfl ?_
          refine WL.nil ?_
          refine WX.one ⟨hd_2, ?_⟩
          refine DL.step [(44, _), (45, _)] rfl ⟨rfl, rfl, trivial⟩ rfl (fun wq_19 kq_19 => ?_)
          have zs_kq_19 := kq_19.size
          replace hB := hB.pure kq_19
          replace hrow := hrow.pure kq_19
          replace hk6 := hk6.pure kq_19
          replace hd_2 := hd_2.pure kq_19
          rw [hx2]
          refine WL.call eg_46 rfl rfl (rotten_calls _ _ hhl n (by omega)) ?_
          rintro v w3 ⟨rfl, k3⟩
          have zs_k3 := k3.size
          replace hB := hB.pure k3
          replace hrow := hrow.pure k3
          replace hk6 := hk6.pure k3
          replace hd_2 := hd_2.pure k3
          refine WL.nil ?_
          refine WX.one ⟨hd_2, ?_⟩
          refine DL.step [(48, _), (46, _)] rfl ⟨rfl, rfl, trivial⟩ rfl (fun wq_20 kq_20 => ?_)
          have zs_kq_20 := kq_20.size
          replace hB := hB.pure kq_20
          replace hrow := hrow.pure kq_20
          replace hk6 := hk6.pure kq_20
          replace hd_2 := hd_2.pure kq_20
          refine WL.storeF (ys := s.waits.set i (x.1, rotB (heldS s (d, a)) n)) Try.sizeOf9 hrow rfl rfl rfl (by show 0 + i * 3 + 2 + 1 ≤ s.waits.length * 3; omega) List.length_set (wt_set h2 _) ?_
          intro w5 z5 hW5 k5
          have zs_k5 := k5.size
          replace hB := hB.chg k5 (by first | (intro x h1 h2; exact h2) | (intro x h1 h2; have h3 : _ = _ := h2; exfalso; omega) | (intro b h1 h2 h3; have h4 : _ = _ := h3; (try dsimp only at h2); exfalso; omega) | (intro h1; have h2 : _ = _ := h1; exfalso; omega) | (intro h1; have h2 : _ ≤ _ := h1; exfalso; omega) | (intros; exfalso; (try dsimp only at *); omega) | (intro b h1 h2 h3; exfalso; have h4 := h3.2; (try dsimp only at *); omega) | (intro h1; exfalso; have h4 := h1.2; (try dsimp only at *); omega))
          replace hk6 := hk6.chg k5 (by first | (intro x h1 h2; exact h2) | (intro x h1 h2; have h3 : _ = _ := h2; exfalso; omega) | (intro b h1 h2 h3; have h4 : _ = _ := h3; (try dsimp only at h2); exfalso; omega) | (intro h1; have h2 : _ = _ := h1; exfalso; omega) | (intro h1; have h2 : _ ≤ _ := h1; exfalso; omega) | (intros; exfalso; (try dsimp only at *); omega) | (intro b h1 h2 h3; exfalso; have h4 := h3.2; (try dsimp only at *); omega) | (intro h1; exfalso; have h4 := h1.2; (try dsimp only at *); omega))
          replace hd_2 := hd_2.chg k5 (by first | (intro x h1 h2; exact h2) | (intro x h1 h2; have h3 : _ = _ := h2; exfalso; omega) | (intro b h1 h2 h3; have h4 : _ = _ := h3; (try dsimp only at h2); exfalso; omega) | (intro h1; have h2 : _ = _ := h1; exfalso; omega) | (intro h1; have h2 : _ ≤ _ := h1; exfalso; omega) | (intros; exfalso; (try dsimp only at *); omega) | (intro b h1 h2 h3; exfalso; have h4 := h3.2; (try dsimp only at *); omega) | (intro h1; exfalso; have h4 := h1.2; (try dsimp only at *); omega))
          refine WL.nil ?_
          refine WX.one0 (v := undef) ⟨hd_2, ?_⟩
          refine DL.done (fun we_21 ke_21 => ?_)
          have zs_ke_21 := ke_21.size
          replace hB := hB.pure ke_21
          replace hk6 := hk6.pure ke_21
          replace hd_2 := hd_2.pure ke_21
          replace hW5 := hW5.pure ke_21
          refine WX.then_normal (WC.seq (WC.region (WL.assign rfl rfl (WL.nil (WX.then_normal (WC.ret (?_)))))))
          refine WX.ret1 (.inl rfl) Try.results33 rfl ?_
          first
            | (rw [hE]
               exact ⟨_, rfl, rfl, h, hw⟩)
            | (rw [hE, if_pos rfl]
               have hrw : (rotS s (d, a) n).waits = s.waits := by
                 unfold rotS
                 rw [newV_none h2]
               have hL := hI.ld.set (f' := lf (rotS s (d, a) n)) hr hk6 hkg hrow (fun d' a' _ _ => rot_lf hd0 ha0 (newV_none h2) d' a')
               have hI2 := (hI.setLd hL hk6 (fun b' _ e => .inl (by rw [show b' = g from e]; exact hkg))).mono (S' := A) (fun x hx => hx.1)
               have hcells : rotS s (d, a) n = putLast s (d, a) (rotB (heldS s (d, a)) n) := by
                 unfold rotS putLast
                 rw [newV_none h2]
               refine ⟨_, rfl, rfl, ?_, hw.chg hk6 (fun x _ hx => by rw [show x = g from hx]; exact hgA)⟩
               rw [hcells] at hI2 hrok ⊢
               exact ⟨aD, hrok, hwin, some ⟨go, 0, none⟩, lc, ls.set d.toNat ⟨some ⟨g, 0, none⟩, rc, rxs.set a.toNat (bs (rotB (heldS s (d, a)) n))⟩, ga, gc, wa, wc, hB, hI2⟩)
            | (have hR := rot_waits (n := n) h2 h3 h4
               rw [hE, if_pos rfl]
               refine ⟨_, rfl, rfl, ?_, hw.chg hk6 (fun x _ hx => by rw [show x = gw from hx]; exact hgwA)⟩
               rw [hR] at hrok ⊢
               have hI5 := hI.setWaits (hW5.mono (fun b e => by rw [show b = gw from e]; exact ⟨hgwA, hgww⟩)) hk6 (fun b e => ⟨_, rfl, e⟩)
               refine ⟨aD, hrok, fun p hp => ?_, la, lc, ls, ga, gc, some ⟨gw, 0, none⟩, wc, ?_, hI5.mono (fun x hx => hx.1)⟩
               ·
                 rcases List.mem_or_eq_of_mem_set hp with h5 | h5
                 ·
                   exact hwin p h5
                 ·
                   rw [h5]
                   exact hwin x (List.mem_of_getElem? h2)
               ·
                 show Blk _ D 60 [_, _, .slice _ (s.waits.set i _).length wc, _, _]
                 rw [List.length_set]
                 exact hB)
      ·
        have hE : rotE s d a n = 3 := by simp [rotE, h12, h17, hg]
        refine WL.nil (WX.then_normal (WC.cond_true rfl (WC.seq (WC.region (WL.assign rfl rfl (WL.nil (WX.then_normal (?_))))))))
        refine WC.ret (WX.then_ret (?_))
        refine WX.ret1 (.inl rfl) Try.results33 rfl ?_
        first
          | (rw [hE]
             exact ⟨_, rfl, rfl, h, hw⟩)
          | (rw [hE, if_pos rfl]
             have hrw : (rotS s (d, a) n).waits = s.waits := by
               unfold rotS
               rw [newV_none h2]
             have hL := hI.ld.set (f' := lf (rotS s (d, a) n)) hr hk6 hkg hrow (fun d' a' _ _ => rot_lf hd0 ha0 (newV_none h2) d' a')
             have hI2 := (hI.setLd hL hk6 (fun b' _ e => .inl (by rw [show b' = g from e]; exact hkg))).mono (S' := A) (fun x hx => hx.1)
             have hcells : rotS s (d, a) n = putLast s (d, a) (rotB (heldS s (d, a)) n) := by
               unfold rotS putLast
               rw [newV_none h2]
             refine ⟨_, rfl, rfl, ?_, hw.chg hk6 (fun x _ hx => by rw [show x = g from hx]; exact hgA)⟩
             rw [hcells] at hI2 hrok ⊢
             exact ⟨aD, hrok, hwin, some ⟨go, 0, none⟩, lc, ls.set d.toNat ⟨some ⟨g, 0, none⟩, rc, rxs.set a.toNat (bs (rotB (heldS s (d, a)) n))⟩, ga, gc, wa, wc, hB, hI2⟩)
          | (have hR := rot_waits (n := n) h2 h3 h4
             rw [hE, if_pos rfl]
             refine ⟨_, rfl, rfl, ?_, hw.chg hk6 (fun x _ hx => by rw [show x = gw from hx]; exact hgwA)⟩
             rw [hR] at hrok ⊢
             have hI5 := hI.setWaits (hW5.mono (fun b e => by rw [show b = gw from e]; exact ⟨hgwA, hgww⟩)) hk6 (fun b e => ⟨_, rfl, e⟩)
             refine ⟨aD, hrok, fun p hp => ?_, la, lc, ls, ga, gc, some ⟨gw, 0, none⟩, wc, ?_, hI5.mono (fun x hx => hx.1)⟩
             ·
               rcases List.mem_or_eq_of_mem_set hp with h5 | h5
               ·
                 exact hwin p h5
               ·
                 rw [h5]
                 exact hwin x (List.mem_of_getElem? h2)
             ·
               show Blk _ D 60 [_, _, .slice _ (s.waits.set i _).length wc, _, _]
               rw [List.length_set]
               exact hB)
  ·
    have hE : rotE s d a n = 1 := by simp [rotE, h12]
    rw [decide_eq_false h12]
    refine WL.not rfl rfl (WL.move rfl rfl (WL.pass rfl rfl rfl rfl (WL.pass rfl rfl rfl rfl (WL.pickT rfl rfl rfl (WL.nil (WX.then_normal (WC.cond_true rfl (?_))))))))
    refine WC.seq (WC.region (WL.assign rfl rfl (WL.nil (WX.then_normal (WC.ret (WX.then_ret (?_)))))))
    refine WX.ret1 (.inl rfl) Try.results33 rfl ?_
    first
      | (rw [hE]
         exact ⟨_, rfl, rfl, h, hw⟩)
      | (rw [hE, if_pos rfl]
         have hrw : (rotS s (d, a) n).waits = s.waits := by
           unfold rotS
           rw [newV_none h2]
         have hL := hI.ld.set (f' := lf (rotS s (d, a) n)) hr hk6 hkg hrow (fun d' a' _ _ => rot_lf hd0 ha0 (newV_none h2) d' a')
         have hI2 := (hI.setLd hL hk6 (fun b' _ e => .inl (by rw [show b' = g from e]; exact hkg))).mono (S' := A) (fun x hx => hx.1)
         have hcells : rotS s (d, a) n = putLast s (d, a) (rotB (heldS s (d, a)) n) := by
           unfold rotS putLast
           rw [newV_none h2]
         refine ⟨_, rfl, rfl, ?_, hw.chg hk6 (fun x _ hx => by rw [show x = g from hx]; exact hgA)⟩
         rw [hcells] at hI2 hrok ⊢
         exact ⟨aD, hrok, hwin, some ⟨go, 0, none⟩, lc, ls.set d.toNat ⟨some ⟨g, 0, none⟩, rc, rxs.set a.toNat (bs (rotB (heldS s (d, a)) n))⟩, ga, gc, wa, wc, hB, hI2⟩)
      | (have hR := rot_waits (n := n) h2 h3 h4
         rw [hE, if_pos rfl]
         refine ⟨_, rfl, rfl, ?_, hw.chg hk6 (fun x _ hx => by rw [show x = gw from hx]; exact hgwA)⟩
         rw [hR] at hrok ⊢
         have hI5 := hI.setWaits (hW5.mono (fun b e => by rw [show b = gw from e]; exact ⟨hgwA, hgww⟩)) hk6 (fun b e => ⟨_, rfl, e⟩)
         refine ⟨aD, hrok, fun p hp => ?_, la, lc, ls, ga, gc, some ⟨gw, 0, none⟩, wc, ?_, hI5.mono (fun x hx => hx.1)⟩
         ·
           rcases List.mem_or_eq_of_mem_set hp with h5 | h5
           ·
             exact hwin p h5
           ·
             rw [h5]
             exact hwin x (List.mem_of_getElem? h2)
         ·
           show Blk _ D 60 [_, _, .slice _ (s.waits.set i _).length wc, _, _]
           rw [List.length_set]
           exact hB)
end Go.Proofs.Ytcdbkfaebgficaa
