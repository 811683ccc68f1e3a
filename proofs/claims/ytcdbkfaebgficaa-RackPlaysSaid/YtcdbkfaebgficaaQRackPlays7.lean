import Derived.Test.YtcdbkfaebgficaaQRackPlays6
namespace Go.Proofs.Ytcdbkfaebgficaa
open Go.RowKit Go.HL

/-- one row more -/
theorem LD.snoc {S M : Nat → Prop} {w w' : World} {la la2 : Option Addr} {lc lc2 : Nat} {ls : List Sr} {i sn g cr : Nat} {f : Nat → Nat → ByteArray} {xs : List ByteArray} (h : LD S w la lc ls i sn f) (hr : Row (· = g) w 9 es (some ⟨g, 0, none⟩) cr xs) (hx : xs = (List.range sn).map (f i)) (hg : S g) (hnew : ∀ (e : Nat) (r : Sr), ls[e]? = some r → r.ao ≠ some ⟨g, 0, none⟩)
    (ho : Row S w' 61 esr la2 lc2 (ls ++ [⟨some ⟨g, 0, none⟩, cr, xs⟩])) (k : Chg M w w') (hM : ∀ b, M b → Eqb la b) : LD S w' la2 lc2 (ls ++ [⟨some ⟨g, 0, none⟩, cr, xs⟩]) (i + 1) sn f := by
  have hlen := h.len
  have hne : ∀ b, b < w.heap.size → M b → kb w b ≠ some (some 9) := fun b _ m => by
    have h1 := (h.outer.kb.at_.eqb (hM b m)).2
    rw [h1]
    decide
  have hat : ∀ {d : Nat} {r : Sr}, (ls ++ [⟨some ⟨g, 0, none⟩, cr, xs⟩])[d]? = some r → ls[d]? = some r ∨ d = i ∧ r = ⟨some ⟨g, 0, none⟩, cr, xs⟩ := by
    intro d r hd
    rcases Nat.lt_or_ge d ls.length with h1 | h1
    · rw [List.getElem?_append_left h1] at hd; exact .inl hd
    · rw [List.getElem?_append_right h1] at hd
      have h2 := (List.getElem?_eq_some_iff.1 hd).1
      simp at h2
      have h3 : d - ls.length = 0 := by omega
      rw [h3] at hd
      injection hd with hd
      exact .inr ⟨by omega, hd.symm⟩
  refine ⟨by rw [List.length_append, hlen]; rfl, ho, fun d r hd => ?_, fun d r hd => ?_, fun d e r q g' h1 h2 h3 h4 => ?_⟩
  · rcases hat hd with h1 | ⟨h1, h2⟩
    · exact h.vals d r h1
    · rw [h2, h1]; exact hx
  · rcases hat hd with h1 | ⟨h1, h2⟩
    · obtain ⟨g', e1, e2, e3⟩ := h.own d r h1
      exact ⟨g', e1, e2, e3.chgK k hne⟩
    · rw [h2]
      exact ⟨g, rfl, hg, hr.chgK k hne⟩
  · rcases hat h1 with h5 | ⟨h5, h6⟩ <;> rcases hat h2 with h7 | ⟨h7, h8⟩
    · exact h.apart d e r q g' h5 h7 h3 h4
    · rw [h8] at h4
      injection h4 with h4
      injection h4 with h4
      rw [← h4] at h3
      exact absurd h3 (hnew d r h5)
    · rw [h6] at h3
      injection h3 with h3
      injection h3 with h3
      rw [← h3] at h4
      exact absurd h4 (hnew e q h7)
    · omega
set_option maxHeartbeats 2000000 in
theorem dNew_calls (w : World) {dn sn : Nat} (hd : 1 ≤ dn ∧ dn ≤ 16) (hs : 1 ≤ sn ∧ sn ≤ 2000) :
    Calls Try.prog 11 [vi dn, vi sn].toArray w (Ret fun v w' => (∃ D, v = .tuple #[ptr D, vi 0] ∧ RD (w.heap.size ≤ ·) w' D (newS dn sn)) ∧ Chg Nob w w') := by
  have hw := Chg.refl Nob w
  have hok := newS_ok hd hs
  refine Calls.of_WC Try.func11 rfl Try.ntmps11 (by simp) ?_
  refine WC.seq (WC.region (WL.assign rfl rfl (WL.assign rfl rfl (WL.nil (WX.then_normal (WC.seq (WC.seq (?_))))))))
  refine WC.region (WL.move rfl rfl (?_))
  refine WL.lss? rfl rfl rfl (fun h9 => ?_) (fun h9 => ?_)
  ·
    refine WL.move rfl rfl (WL.pass rfl rfl rfl rfl (WL.pass rfl rfl rfl rfl (WL.pickT rfl rfl rfl (WL.move rfl rfl (WL.pass rfl rfl rfl rfl (WL.pass rfl rfl rfl rfl (WL.pickT rfl rfl rfl (?_))))))))
    refine WL.move rfl rfl (WL.pass rfl rfl rfl rfl (WL.pass rfl rfl rfl rfl (WL.pickT rfl rfl rfl (WL.nil (WX.then_normal (WC.cond_true rfl (WC.seq (?_))))))))
    refine WC.region (WL.assign rfl rfl (WL.assign rfl rfl (WL.nil (WX.then_normal (WC.ret (WX.then_ret (?_)))))))
    refine WX.ret2 (.inl rfl) Try.results11 rfl rfl ?_
    first
      | (exfalso; omega)
      | (have hid : i = dn := by omega
         subst hid
         refine ⟨_, rfl, ⟨g_1, rfl, hgw, hok, (fun p hp => by cases hp), la, lc, ls, some ⟨g, 0, none⟩, i, none, 0, ?_, hL.congr (fun _ _ _ _ => rfl), hG, Row.nil _ _ _ _⟩, hw⟩
         show Blk w2 g_1 60 [.slice la i lc, .slice (some ⟨g, 0, none⟩) (List.replicate i false).length i, .slice none 0 0, .bool false, vi (-1)]
         rw [List.length_replicate]
         exact hB)
  ·
    refine WL.move rfl rfl (WL.want rfl rfl rfl (WL.move rfl rfl (WL.want rfl rfl rfl (?_))))
    refine WL.gtr? rfl rfl rfl (fun h12 => ?_) (fun h12 => ?_)
    ·
      refine WL.pickF rfl rfl rfl (WL.move rfl rfl (WL.pass rfl rfl rfl rfl (WL.pass rfl rfl rfl rfl (WL.pickT rfl rfl rfl (WL.move rfl rfl (WL.pass rfl rfl rfl rfl (WL.pass rfl rfl rfl rfl (?_))))))))
      refine WL.pickT rfl rfl rfl (WL.nil (WX.then_normal (WC.cond_true rfl (WC.seq (WC.region (WL.assign rfl rfl (WL.assign rfl rfl (?_))))))))
      refine WL.nil (WX.then_normal (WC.ret (WX.then_ret (?_))))
      refine WX.ret2 (.inl rfl) Try.results11 rfl rfl ?_
      first
        | (exfalso; omega)
        | (have hid : i = dn := by omega
           subst hid
           refine ⟨_, rfl, ⟨g_1, rfl, hgw, hok, (fun p hp => by cases hp), la, lc, ls, some ⟨g, 0, none⟩, i, none, 0, ?_, hL.congr (fun _ _ _ _ => rfl), hG, Row.nil _ _ _ _⟩, hw⟩
           show Blk w2 g_1 60 [.slice la i lc, .slice (some ⟨g, 0, none⟩) (List.replicate i false).length i, .slice none 0 0, .bool false, vi (-1)]
           rw [List.length_replicate]
           exact hB)
    ·
      refine WL.pickF rfl rfl rfl (WL.move rfl rfl (WL.want rfl rfl rfl (WL.move rfl rfl (WL.want rfl rfl rfl (?_)))))
      refine WL.lss? rfl rfl rfl (fun h16 => ?_) (fun h16 => ?_)
      ·
        refine WL.pickF rfl rfl rfl (WL.move rfl rfl (WL.pass rfl rfl rfl rfl (WL.pass rfl rfl rfl rfl (WL.pickT rfl rfl rfl (WL.nil (WX.then_normal (WC.cond_true rfl (?_))))))))
        refine WC.seq (WC.region (WL.assign rfl rfl (WL.assign rfl rfl (WL.nil (WX.then_normal (WC.ret (WX.then_ret (?_))))))))
        refine WX.ret2 (.inl rfl) Try.results11 rfl rfl ?_
        first
          | (exfalso; omega)
          | (have hid : i = dn := by omega
             subst hid
             refine ⟨_, rfl, ⟨g_1, rfl, hgw, hok, (fun p hp => by cases hp), la, lc, ls, some ⟨g, 0, none⟩, i, none, 0, ?_, hL.congr (fun _ _ _ _ => rfl), hG, Row.nil _ _ _ _⟩, hw⟩
             show Blk w2 g_1 60 [.slice la i lc, .slice (some ⟨g, 0, none⟩) (List.replicate i false).length i, .slice none 0 0, .bool false, vi (-1)]
             rw [List.length_replicate]
             exact hB)
      ·
        refine WL.pickF rfl rfl rfl (WL.move rfl rfl (WL.want rfl rfl rfl (WL.move rfl rfl (WL.want rfl rfl rfl (?_)))))
        refine WL.gtr? rfl rfl rfl (fun h20 => ?_) (fun h20 => ?_)
        ·
          refine WL.pickF rfl rfl rfl (WL.nil (WX.then_normal (WC.cond_true rfl (WC.seq (WC.region (WL.assign rfl rfl (WL.assign rfl rfl (?_))))))))
          refine WL.nil (WX.then_normal (WC.ret (WX.then_ret (?_))))
          refine WX.ret2 (.inl rfl) Try.results11 rfl rfl ?_
          first
            | (exfalso; omega)
            | (have hid : i = dn := by omega
               subst hid
               refine ⟨_, rfl, ⟨g_1, rfl, hgw, hok, (fun p hp => by cases hp), la, lc, ls, some ⟨g, 0, none⟩, i, none, 0, ?_, hL.congr (fun _ _ _ _ => rfl), hG, Row.nil _ _ _ _⟩, hw⟩
               show Blk w2 g_1 60 [.slice la i lc, .slice (some ⟨g, 0, none⟩) (List.replicate i false).length i, .slice none 0 0, .bool false, vi (-1)]
               rw [List.length_replicate]
               exact hB)
        ·
          refine WL.pickF rfl rfl rfl (WL.nil (WX.then_normal (WC.cond_false rfl (WC.skip (WX.then_normal (WC.seq (WC.region (?_))))))))
          refine WL.move rfl rfl (?_)
          refine WL.make (e := ebool) false dn dn Try.underlying48 info_4 rfl rfl rfl ⟨rfl, rfl, Nat.le_refl _⟩ (by constructor <;> omega) rfl ?_
          intro g w1 hG0 k1 z1 eg
          rw [List.length_replicate]
          have hG : Row (fun b => w.heap.size ≤ b) w1 4 ebool (some ⟨g, 0, none⟩) dn (List.replicate dn false) := ⟨(fun a ea => by injection ea with ea; subst ea; show w.heap.size ≤ g; omega), hG0.own⟩
          clear hG0
          have zs_k1 := k1.size
          replace hw := hw.pure k1
          refine WL.bld rfl (bld_60_1_4 _ _ _ _) rfl (?_)
          refine WL.box rfl rfl ?_
          intro g_1 w_1 hge_1 hlt_1 hb_1 k_1
          have zs_k_1 := k_1.size
          replace hw := hw.pure k_1
          replace hG := hG.pure k_1
          refine WL.assign rfl rfl (WL.nil (WX.then_normal (WC.seq (WC.seq (WC.region (WL.assign rfl rfl (WL.nil (?_))))))))
          refine WX.then_normal (WC.block (?_))
          have hB : Blk w_1 g_1 60 [.slice none 0 0, .slice (some ⟨g, 0, none⟩) dn dn, .slice none 0 0, .bool false, vi (-1)] := hb_1
          have hL : LD (fun b => w.heap.size ≤ b) w_1 none 0 [] 0 sn (fun _ _ => bs zeros) := ⟨rfl, Row.nil _ _ _ _, (fun d r h => by cases h), (fun d r h => by cases h), (fun d e r q g h => by cases h)⟩
          have hgw : w.heap.size ≤ g_1 := by omega
          refine WC.loop (σ := Nat × Option Addr × Nat × List Sr) (fun q => [(0, vi dn), (1, vi sn), (6, ptr g_1), (7, vi q.1)])
            (fun q w' => q.1 ≤ dn ∧ Blk w' g_1 60 [.slice q.2.1 q.1 q.2.2.1, .slice (some ⟨g, 0, none⟩) dn dn, .slice none 0 0, .bool false, vi (-1)] ∧ LD (fun b => w.heap.size ≤ b) w' q.2.1 q.2.2.1 q.2.2.2 q.1 sn (fun _ _ => bs zeros) ∧ Row (fun b => w.heap.size ≤ b) w' 4 ebool (some ⟨g, 0, none⟩) dn (List.replicate dn false) ∧ Chg Nob w w') (fun q => dn - q.1) (0, none, 0, []) ⟨rfl, rfl, rfl, rfl, trivial⟩ ⟨Nat.zero_le _, hB, hL, hG, hw⟩ ?_
          clear hB hL hG hw hb_1
          rintro ⟨i, la, lc, ls⟩ w2 ⟨hi, hB, hL, hG, hw⟩
          simp only at hi hB hL
          dsimp only
          have hlen := hL.len
          refine WC.seq (WC.seq (WC.region (WL.move rfl rfl (WL.move rfl rfl (?_)))))
          refine WL.lss? rfl rfl rfl (fun h28 => ?_) (fun h28 => ?_)
          ·
            refine WL.nil (WX.then_normal (WC.cond_true rfl (WC.skip (WX.then_normal (WC.seq (WC.block (?_)))))))
            have zw2 := hw.size
            have hD : Chg (fun x => w.heap.size ≤ x) w2 w2 := Chg.refl _ _
            refine WC.drawM ((fun x => w.heap.size ≤ x)) [0, 1, 2, 3, 5, 9, 10] [4, 6, 7, 8, 11] mixed rfl rfl (fun wd_2 kd_2 zd_2 => ?_)
            have zs_kd_2 := kd_2.size
            replace hB := hB.pure kd_2
            replace hL := hL.pure kd_2
            replace hG := hG.pure kd_2
            replace hw := hw.pure kd_2
            apply DQT.step (E' := [(6, _)])
            case ho => rfl
            case hs => exact ⟨rfl, trivial⟩
            case hk => rfl
            case h1 =>
              intro wq_4 kq_4
              refine WL.move rfl rfl (?_)
              refine WL.nil ?_
              exact WX.one ⟨rfl, by first | exact Chg.refl _ _ | assumption⟩
            apply DQT.step (E' := [(6, _)])
            case ho => rfl
            case hs => exact ⟨rfl, trivial⟩
            case hk => rfl
            case h1 =>
              intro wq_5 kq_5
              refine WL.move rfl rfl (?_)
              refine WL.nil ?_
              exact WX.one ⟨rfl, by first | exact Chg.refl _ _ | assumption⟩
            apply DQT.step (E' := [(32, _)])
            case ho => rfl
            case hs => exact ⟨rfl, trivial⟩
            case hk => rfl
            case h1 =>
              intro wq_6 kq_6
              refine WL.nilCheck rfl rfl (?_)
              refine WL.nil ?_
              exact WX.one ⟨rfl, by first | exact Chg.refl _ _ | assumption⟩
            apply DQT.step (E' := [(33, _)])
            case ho => rfl
            case hs => exact ⟨rfl, trivial⟩
            case hk => rfl
            case h1 =>
              intro wq_7 kq_7
              refine WL.fieldAddr (fld_60_0) rfl rfl (?_)
              refine WL.nil ?_
              exact WX.one ⟨rfl, by first | exact Chg.refl _ _ | assumption⟩
            apply DQT.step (E' := [(1, _)])
            case ho => rfl
            case hs => exact ⟨rfl, trivial⟩
            case hk => rfl
            case h1 =>
              intro wq_8 kq_8
              refine WL.move rfl rfl (?_)
              refine WL.nil ?_
              exact WX.one ⟨rfl, by first | exact Chg.refl _ _ | assumption⟩
            apply DQT.step (E' := [(31, _)])
            case ho => rfl
            case hs => exact ⟨rfl, trivial⟩
            case hk => rfl
            case h1 =>
              intro wq_9 kq_9
              refine WL.nilCheck rfl rfl (?_)
              refine WL.nil ?_
              exact WX.one ⟨rfl, by first | exact Chg.refl _ _ | assumption⟩
            apply DQT.step (E' := [(40, _)])
            case ho => rfl
            case hs => exact ⟨rfl, trivial⟩
            case hk => rfl
            case h1 =>
              intro wq_10 kq_10
              refine WL.fieldAddr (fld_60_0) rfl rfl (?_)
              refine WL.nil ?_
              exact WX.one ⟨rfl, by first | exact Chg.refl _ _ | assumption⟩
            refine DQT.done (fun hd_3 => ?_)
            refine ⟨?_, ?_, trivial, trivial, trivial, trivial⟩
            refine DT.step [(34, _)] rfl ⟨rfl, trivial⟩ rfl (fun wq_11 kq_11 => ?_)
            have zs_kq_11 := kq_11.size
            replace hB := hB.pure kq_11
            replace hL := hL.pure kq_11
            replace hG := hG.pure kq_11
            replace hw := hw.pure kq_11
            replace hd_3 := hd_3.pure kq_11
            refine WL.loadB Try.isAgg57 hB rfl rfl rfl ?_
            refine WL.nil (WX.one ⟨hd_3, ?_⟩)
            refine ⟨?_, trivial, trivial, trivial, trivial⟩
            refine DT.step [(36, _)] rfl ⟨rfl, trivial⟩ rfl (fun wq_12 kq_12 => ?_)
            have zs_kq_12 := kq_12.size
            replace hB := hB.pure kq_12
            replace hL := hL.pure kq_12
            replace hG := hG.pure kq_12
            replace hw := hw.pure kq_12
            replace hd_3 := hd_3.pure kq_12
            refine WL.call eg_23 rfl rfl (blank_calls _ sn hs) ?_
            rintro v w7 ⟨⟨gn, cn, rfl, hbl, hgn⟩, k7⟩
            have hgnl : gn < w7.heap.size := hbl.own.lt _ rfl
            have hgno : ∀ (e : Nat) (r : Sr), ls[e]? = some r → r.ao ≠ some ⟨gn, 0, none⟩ := fun e r he h9 => by
              obtain ⟨g', e1, _, e3⟩ := hL.own e r he
              rw [e1] at h9
              injection h9 with h9
              injection h9 with h9
              have h10 := e3.own.lt _ rfl
              dsimp only at h10
              omega
            have zs_k7 := k7.size
            replace hB := hB.pure k7
            replace hL := hL.pure k7
            replace hG := hG.pure k7
            replace hw := hw.pure k7
            replace hd_3 := hd_3.pure k7
            refine WL.nil (WX.one ⟨hd_3, ?_⟩)
            refine ⟨?_, trivial, trivial, trivial⟩
            refine DT.step [(37, _)] rfl ⟨rfl, trivial⟩ rfl (fun wq_13 kq_13 => ?_)
            have zs_kq_13 := kq_13.size
            replace hB := hB.pure kq_13
            replace hL := hL.pure kq_13
            replace hG := hG.pure kq_13
            replace hw := hw.pure kq_13
            replace hd_3 := hd_3.pure kq_13
            replace hbl := hbl.pure kq_13
            obtain ⟨Z, hZ⟩ : ∃ Z, Z = List.replicate sn (bs zeros) := ⟨_, rfl⟩
            have hZl : Z.length = sn := by rw [hZ, List.length_replicate]
            rw [← hZ] at hbl
            rw [show Value.slice (some ⟨gn, 0, none⟩) sn cn = Value.slice (some ⟨gn, 0, none⟩) Z.length cn from by rw [hZl]]
            refine WL.build (e := esr) [⟨some ⟨gn, 0, none⟩, cn, Z⟩] Try.underlying57 Try.sizeOf61 Try.zeroValue61 rfl rfl rfl (by first | (simp [Value.cells]; done) | (simp [Value.cells] <;> rfl) | (simp [Value.cells, eb, ei, es, ebool, e32, e64]; done)) (by decide) rfl ?_
            intro a_b38 w_b38 b38 l_b38 z_b38 k_b38
            have zs_k_b38 := k_b38.size
            replace hB := hB.pure k_b38
            replace hL := hL.pure k_b38
            replace hG := hG.pure k_b38
            replace hw := hw.pure k_b38
            replace hd_3 := hd_3.pure k_b38
            replace hbl := hbl.pure k_b38
            refine WL.nil (WX.one ⟨hd_3, ?_⟩)
            refine ⟨?_, trivial, trivial⟩
            refine DT.step [(35, _), (38, _)] rfl ⟨rfl, rfl, trivial⟩ rfl (fun wq_14 kq_14 => ?_)
            have zs_kq_14 := kq_14.size
            replace hB := hB.pure kq_14
            replace hL := hL.pure kq_14
            replace hG := hG.pure kq_14
            replace hw := hw.pure kq_14
            replace hd_3 := hd_3.pure kq_14
            replace hbl := hbl.pure kq_14
            replace b38 := b38.pure kq_14
            refine WL.append (e := esr) (xs := ls) (S := fun x => w.heap.size ≤ x) info_61 rfl Try.underlying57 (by show some (Value.slice la i lc) = some (Value.slice la ls.length lc); rw [hlen]) rfl hL.outer (b38.rsl.src Try.underlying57) (by rw [hlen]; constructor <;> (simp only [List.length_cons, List.length_nil]; omega)) (fun x hx => by omega) rfl ?_
            intro a9 c9 w9 hO9 g9 n9
            have k9 := g9.chg
            have hL9 := hL.snoc hbl (by
              rw [hZ]
              apply List.ext_getElem?
              intro j
              rw [List.getElem?_map]
              rcases Nat.lt_or_ge j sn with hj | hj
              ·
                rw [List.getElem?_replicate, if_pos hj, List.getElem?_range hj]; rfl
              ·
                rw [List.getElem?_replicate, if_neg (by omega), List.getElem?_eq_none (by rw [List.length_range]; exact hj)]; rfl) (by omega) hgno hO9 k9 (fun b e => e.1)
            have hkl : ∀ b, Eqb la b → kb _ b = some (some 61) := fun b e => (hL.outer.kb.at_.eqb e).2
            have hG9 := hG.chgK k9 (fun b _ e => by rw [hkl b e.1]; decide)
            have hB9 := hB.chg k9 (fun e => by have h1 := hkl _ e.1; rw [hB.kb] at h1; exact absurd h1 (by decide))
            have k9' := k9.mono (M' := fun x => w.heap.size ≤ x) (fun x _ e => e.2)
            have e10 : (ls ++ [(⟨some ⟨gn, 0, none⟩, cn, Z⟩ : Sr)]).length = i + 1 := hL9.len
            rw [e10]
            have zs_k9' := k9'.size
            replace hw := hw.chg k9' (by first | (intro x h1 h2; exact h2) | (intro x h1 h2; have h3 : _ = _ := h2; exfalso; omega) | (intro b h1 h2 h3; have h4 : _ = _ := h3; (try dsimp only at h2); exfalso; omega) | (intro h1; have h2 : _ = _ := h1; exfalso; omega) | (intro h1; have h2 : _ ≤ _ := h1; exfalso; omega) | (intros; exfalso; (try dsimp only at *); omega) | (intro b h1 h2 h3; exfalso; have h4 := h3.2; (try dsimp only at *); omega) | (intro h1; exfalso; have h4 := h1.2; (try dsimp only at *); omega))
            replace hd_3 := hd_3.chg k9' (by first | (intro x h1 h2; exact h2) | (intro x h1 h2; have h3 : _ = _ := h2; exfalso; omega) | (intro b h1 h2 h3; have h4 : _ = _ := h3; (try dsimp only at h2); exfalso; omega) | (intro h1; have h2 : _ = _ := h1; exfalso; omega) | (intro h1; have h2 : _ ≤ _ := h1; exfalso; omega) | (intros; exfalso; (try dsimp only at *); omega) | (intro b h1 h2 h3; exfalso; have h4 := h3.2; (try dsimp only at *); omega) | (intro h1; exfalso; have h4 := h1.2; (try dsimp only at *); omega))
            refine WL.nil (WX.one ⟨hd_3, ?_⟩)
            refine ⟨?_, trivial⟩
            refine DT.step [(41, _), (39, _)] rfl ⟨rfl, rfl, trivial⟩ rfl (fun wq_15 kq_15 => ?_)
            have zs_kq_15 := kq_15.size
            replace hw := hw.pure kq_15
            replace hd_3 := hd_3.pure kq_15
            replace hL9 := hL9.pure kq_15
            replace hG9 := hG9.pure kq_15
            replace hB9 := hB9.pure kq_15
            refine WL.store Try.sizeOf57 hB9 rfl rfl rfl rfl ?_
            intro w11 z11 hB11 k11
            have hL11 := hL9.chgK k11 (fun b _ e => by rw [show b = g_1 from e, hB9.kb]; exact ⟨by decide, by decide⟩)
            have hG11 := hG9.chgK k11 (fun b _ e => by rw [show b = g_1 from e, hB9.kb]; decide)
            have k11' := k11.mono (M' := fun x => w.heap.size ≤ x) (fun x _ e => by rw [show x = g_1 from e]; exact hgw)
            have zs_k11' := k11'.size
            replace hw := hw.chg k11' (by first | (intro x h1 h2; exact h2) | (intro x h1 h2; have h3 : _ = _ := h2; exfalso; omega) | (intro b h1 h2 h3; have h4 : _ = _ := h3; (try dsimp only at h2); exfalso; omega) | (intro h1; have h2 : _ = _ := h1; exfalso; omega) | (intro h1; have h2 : _ ≤ _ := h1; exfalso; omega) | (intros; exfalso; (try dsimp only at *); omega) | (intro b h1 h2 h3; exfalso; have h4 := h3.2; (try dsimp only at *); omega) | (intro h1; exfalso; have h4 := h1.2; (try dsimp only at *); omega))
            replace hd_3 := hd_3.chg k11' (by first | (intro x h1 h2; exact h2) | (intro x h1 h2; have h3 : _ = _ := h2; exfalso; omega) | (intro b h1 h2 h3; have h4 : _ = _ := h3; (try dsimp only at h2); exfalso; omega) | (intro h1; have h2 : _ = _ := h1; exfalso; omega) | (intro h1; have h2 : _ ≤ _ := h1; exfalso; omega) | (intros; exfalso; (try dsimp only at *); omega) | (intro b h1 h2 h3; exfalso; have h4 := h3.2; (try dsimp only at *); omega) | (intro h1; exfalso; have h4 := h1.2; (try dsimp only at *); omega))
            refine WL.nil (WX.one0 (v := undef) ⟨hd_3, ?_⟩)
            refine DT.done (fun we_16 ke_16 => ?_) _
            have zs_ke_16 := ke_16.size
            replace hw := hw.pure ke_16
            replace hd_3 := hd_3.pure ke_16
            replace hL11 := hL11.pure ke_16
            replace hG11 := hG11.pure ke_16
            replace hB11 := hB11.pure ke_16
            rotate_left
            refine DT.step [(36, _)] rfl ⟨rfl, trivial⟩ rfl (fun wq_11 kq_11 => ?_)
            have zs_kq_11 := kq_11.size
            replace hB := hB.pure kq_11
            replace hL := hL.pure kq_11
            replace hG := hG.pure kq_11
            replace hw := hw.pure kq_11
            replace hd_3 := hd_3.pure kq_11
            refine WL.call eg_23 rfl rfl (blank_calls _ sn hs) ?_
            rintro v w7 ⟨⟨gn, cn, rfl, hbl, hgn⟩, k7⟩
            have hgnl : gn < w7.heap.size := hbl.own.lt _ rfl
            have hgno : ∀ (e : Nat) (r : Sr), ls[e]? = some r → r.ao ≠ some ⟨gn, 0, none⟩ := fun e r he h9 => by
              obtain ⟨g', e1, _, e3⟩ := hL.own e r he
              rw [e1] at h9
              injection h9 with h9
              injection h9 with h9
              have h10 := e3.own.lt _ rfl
              dsimp only at h10
              omega
            have zs_k7 := k7.size
            replace hB := hB.pure k7
            replace hL := hL.pure k7
            replace hG := hG.pure k7
            replace hw := hw.pure k7
            replace hd_3 := hd_3.pure k7
            refine WL.nil (WX.one ⟨hd_3, ?_⟩)
            refine ⟨?_, ?_, trivial, trivial, trivial⟩
            refine DT.step [(34, _)] rfl ⟨rfl, trivial⟩ rfl (fun wq_12 kq_12 => ?_)
            have zs_kq_12 := kq_12.size
            replace hB := hB.pure kq_12
            replace hL := hL.pure kq_12
            replace hG := hG.pure kq_12
            replace hw := hw.pure kq_12
            replace hd_3 := hd_3.pure kq_12
            replace hbl := hbl.pure kq_12
            refine WL.loadB Try.isAgg57 hB rfl rfl rfl ?_
            refine WL.nil (WX.one ⟨hd_3, ?_⟩)
            refine ⟨?_, trivial, trivial, trivial⟩
            refine DT.step [(37, _)] rfl ⟨rfl, trivial⟩ rfl (fun wq_13 kq_13 => ?_)
            have zs_kq_13 := kq_13.size
            replace hB := hB.pure kq_13
            replace hL := hL.pure kq_13
            replace hG := hG.pure kq_13
            replace hw := hw.pure kq_13
            replace hd_3 := hd_3.pure kq_13
            replace hbl := hbl.pure kq_13
            obtain ⟨Z, hZ⟩ : ∃ Z, Z = List.replicate sn (bs zeros) := ⟨_, rfl⟩
            have hZl : Z.length = sn := by rw [hZ, List.length_replicate]
            rw [← hZ] at hbl
            rw [show Value.slice (some ⟨gn, 0, none⟩) sn cn = Value.slice (some ⟨gn, 0, none⟩) Z.length cn from by rw [hZl]]
            refine WL.build (e := esr) [⟨some ⟨gn, 0, none⟩, cn, Z⟩] Try.underlying57 Try.sizeOf61 Try.zeroValue61 rfl rfl rfl (by first | (simp [Value.cells]; done) | (simp [Value.cells] <;> rfl) | (simp [Value.cells, eb, ei, es, ebool, e32, e64]; done)) (by decide) rfl ?_
            intro a_b38 w_b38 b38 l_b38 z_b38 k_b38
            have zs_k_b38 := k_b38.size
            replace hB := hB.pure k_b38
            replace hL := hL.pure k_b38
            replace hG := hG.pure k_b38
            replace hw := hw.pure k_b38
            replace hd_3 := hd_3.pure k_b38
            replace hbl := hbl.pure k_b38
            refine WL.nil (WX.one ⟨hd_3, ?_⟩)
            refine ⟨?_, trivial, trivial⟩
            refine DT.step [(35, _), (38, _)] rfl ⟨rfl, rfl, trivial⟩ rfl (fun wq_14 kq_14 => ?_)
            have zs_kq_14 := kq_14.size
            replace hB := hB.pure kq_14
            replace hL := hL.pure kq_14
            replace hG := hG.pure kq_14
            replace hw := hw.pure kq_14
            replace hd_3 := hd_3.pure kq_14
            replace hbl := hbl.pure kq_14
            replace b38 := b38.pure kq_14
            refine WL.append (e := esr) (xs := ls) (S := fun x => w.heap.size ≤ x) info_61 rfl Try.underlying57 (by show some (Value.slice la i lc) = some (Value.slice la ls.length lc); rw [hlen]) rfl hL.outer (b38.rsl.src Try.underlying57) (by rw [hlen]; constructor <;> (simp only [List.length_cons, List.length_nil]; omega)) (fun x hx => by omega) rfl ?_
            intro a9 c9 w9 hO9 g9 n9
            have k9 := g9.chg
            have hL9 := hL.snoc hbl (by
              rw [hZ]
              apply List.ext_getElem?
              intro j
              rw [List.getElem?_map]
              rcases Nat.lt_or_ge j sn with hj | hj
              ·
                rw [List.getElem?_replicate, if_pos hj, List.getElem?_range hj]; rfl
              ·
                rw [List.getElem?_replicate, if_neg (by omega), List.getElem?_eq_none (by rw [List.length_range]; exact hj)]; rfl) (by omega) hgno hO9 k9 (fun b e => e.1)
            have hkl : ∀ b, Eqb la b → kb _ b = some (some 61) := fun b e => (hL.outer.kb.at_.eqb e).2
            have hG9 := hG.chgK k9 (fun b _ e => by rw [hkl b e.1]; decide)
            have hB9 := hB.chg k9 (fun e => by have h1 := hkl _ e.1; rw [hB.kb] at h1; exact absurd h1 (by decide))
            have k9' := k9.mono (M' := fun x => w.heap.size ≤ x) (fun x _ e => e.2)
            have e10 : (ls ++ [(⟨some ⟨gn, 0, none⟩, cn, Z⟩ : Sr)]).length = i + 1 := hL9.len
            rw [e10]
            have zs_k9' := k9'.size
            replace hw := hw.chg k9' (by first | (intro x h1 h2; exact h2) | (intro x h1 h2; have h3 : _ = _ := h2; exfalso; omega) | (intro b h1 h2 h3; have h4 : _ = _ := h3; (try dsimp only at h2); exfalso; omega) | (intro h1; have h2 : _ = _ := h1; exfalso; omega) | (intro h1; have h2 : _ ≤ _ := h1; exfalso; omega) | (intros; exfalso; (try dsimp only at *); omega) | (intro b h1 h2 h3; exfalso; have h4 := h3.2; (try dsimp only at *); omega) | (intro h1; exfalso; have h4 := h1.2; (try dsimp only at *); omega))
            replace hd_3 := hd_3.chg k9' (by first | (intro x h1 h2; exact h2) | (intro x h1 h2; have h3 : _ = _ := h2; exfalso; omega) | (intro b h1 h2 h3; have h4 : _ = _ := h3; (try dsimp only at h2); exfalso; omega) | (intro h1; have h2 : _ = _ := h1; exfalso; omega) | (intro h1; have h2 : _ ≤ _ := h1; exfalso; omega) | (intros; exfalso; (try dsimp only at *); omega) | (intro b h1 h2 h3; exfalso; have h4 := h3.2; (try dsimp only at *); omega) | (intro h1; exfalso; have h4 := h1.2; (try dsimp only at *); omega))
            refine WL.nil (WX.one ⟨hd_3, ?_⟩)
            refine ⟨?_, trivial⟩
            refine DT.step [(41, _), (39, _)] rfl ⟨rfl, rfl, trivial⟩ rfl (fun wq_15 kq_15 => ?_)
            have zs_kq_15 := kq_15.size
            replace hw := hw.pure kq_15
            replace hd_3 := hd_3.pure kq_15
            replace hL9 := hL9.pure kq_15
            replace hG9 := hG9.pure kq_15
            replace hB9 := hB9.pure kq_15
            refine WL.store Try.sizeOf57 hB9 rfl rfl rfl rfl ?_
            intro w11 z11 hB11 k11
            have hL11 := hL9.chgK k11 (fun b _ e => by rw [show b = g_1 from e, hB9.kb]; exact ⟨by decide, by decide⟩)
            have hG11 := hG9.chgK k11 (fun b _ e => by rw [show b = g_1 from e, hB9.kb]; decide)
            have k11' := k11.mono (M' := fun x => w.heap.size ≤ x) (fun x _ e => by rw [show x = g_1 from e]; exact hgw)
            have zs_k11' := k11'.size
            replace hw := hw.chg k11' (by first | (intro x h1 h2; exact h2) | (intro x h1 h2; have h3 : _ = _ := h2; exfalso; omega) | (intro b h1 h2 h3; have h4 : _ = _ := h3; (try dsimp only at h2); exfalso; omega) | (intro h1; have h2 : _ = _ := h1; exfalso; omega) | (intro h1; have h2 : _ ≤ _ := h1; exfalso; omega) | (intros; exfalso; (try dsimp only at *); omega) | (intro b h1 h2 h3; exfalso; have h4 := h3.2; (try dsimp only at *); omega) | (intro h1; exfalso; have h4 := h1.2; (try dsimp only at *); omega))
            replace hd_3 := hd_3.chg k11' (by first | (intro x h1 h2; exact h2) | (intro x h1 h2; have h3 : _ = _ := h2; exfalso; omega) | (intro b h1 h2 h3; have h4 : _ = _ := h3; (try dsimp only at h2); exfalso; omega) | (intro h1; have h2 : _ = _ := h1; exfalso; omega) | (intro h1; have h2 : _ ≤ _ := h1; exfalso; omega) | (intros; exfalso; (try dsimp only at *); omega) | (intro b h1 h2 h3; exfalso; have h4 := h3.2; (try dsimp only at *); omega) | (intro h1; exfalso; have h4 := h1.2; (try dsimp only at *); omega))
            refine WL.nil (WX.one0 (v := undef) ⟨hd_3, ?_⟩)
            refine DT.done (fun we_16 ke_16 => ?_) _
            have zs_ke_16 := ke_16.size
            replace hw := hw.pure ke_16
            replace hd_3 := hd_3.pure ke_16
            replace hL11 := hL11.pure ke_16
            replace hG11 := hG11.pure ke_16
            replace hB11 := hB11.pure ke_16
            rotate_left
            refine DT.step [(37, _)] rfl ⟨rfl, trivial⟩ rfl (fun wq_12 kq_12 => ?_)
            have zs_kq_12 := kq_12.size
            replace hB := hB.pure kq_12
            replace hL := hL.pure kq_12
            replace hG := hG.pure kq_12
            replace hw := hw.pure kq_12
            replace hd_3 := hd_3.pure kq_12
            replace hbl := hbl.pure kq_12
            obtain ⟨Z, hZ⟩ : ∃ Z, Z = List.replicate sn (bs zeros) := ⟨_, rfl⟩
            have hZl : Z.length = sn := by rw [hZ, List.length_replicate]
            rw [← hZ] at hbl
            rw [show Value.slice (some ⟨gn, 0, none⟩) sn cn = Value.slice (some ⟨gn, 0, none⟩) Z.length cn from by rw [hZl]]
            refine WL.build (e := esr) [⟨some ⟨gn, 0, none⟩, cn, Z⟩] Try.underlying57 Try.sizeOf61 Try.zeroValue61 rfl rfl rfl (by first | (simp [Value.cells]; done) | (simp [Value.cells] <;> rfl) | (simp [Value.cells, eb, ei, es, ebool, e32, e64]; done)) (by decide) rfl ?_
            intro a_b38 w_b38 b38 l_b38 z_b38 k_b38
            have zs_k_b38 := k_b38.size
            replace hB := hB.pure k_b38
            replace hL := hL.pure k_b38
            replace hG := hG.pure k_b38
            replace hw := hw.pure k_b38
            replace hd_3 := hd_3.pure k_b38
            replace hbl := hbl.pure k_b38
            refine WL.nil (WX.one ⟨hd_3, ?_⟩)
            refine ⟨?_, trivial, trivial, trivial⟩
            refine DT.step [(34, _)] rfl ⟨rfl, trivial⟩ rfl (fun wq_13 kq_13 => ?_)
            have zs_kq_13 := kq_13.size
            replace hB := hB.pure kq_13
            replace hL := hL.pure kq_13
            replace hG := hG.pure kq_13
            replace hw := hw.pure kq_13
            replace hd_3 := hd_3.pure kq_13
            replace hbl := hbl.pure kq_13
            replace b38 := b38.pure kq_13
            refine WL.loadB Try.isAgg57 hB rfl rfl rfl ?_
            refine WL.nil (WX.one ⟨hd_3, ?_⟩)
            refine ⟨?_, trivial, trivial⟩
            refine DT.step [(35, _), (38, _)] rfl ⟨rfl, rfl, trivial⟩ rfl (fun wq_14 kq_14 => ?_)
            have zs_kq_14 := kq_14.size
            replace hB := hB.pure kq_14
            replace hL := hL.pure kq_14
            replace hG := hG.pure kq_14
            replace hw := hw.pure kq_14
            replace hd_3 := hd_3.pure kq_14
            replace hbl := hbl.pure kq_14
            replace b38 := b38.pure kq_14
            refine WL.append (e := esr) (xs := ls) (S := fun x => w.heap.size ≤ x) info_61 rfl Try.underlying57 (by show some (Value.slice la i lc) = some (Value.slice la ls.length lc); rw [hlen]) rfl hL.outer (b38.rsl.src Try.underlying57) (by rw [hlen]; constructor <;> (simp only [List.length_cons, List.length_nil]; omega)) (fun x hx => by omega) rfl ?_
            intro a9 c9 w9 hO9 g9 n9
            have k9 := g9.chg
            have hL9 := hL.snoc hbl (by
              rw [hZ]
              apply List.ext_getElem?
              intro j
              rw [List.getElem?_map]
              rcases Nat.lt_or_ge j sn with hj | hj
              ·
                rw [List.getElem?_replicate, if_pos hj, List.getElem?_range hj]; rfl
              ·
                rw [List.getElem?_replicate, if_neg (by omega), List.getElem?_eq_none (by rw [List.length_range]; exact hj)]; rfl) (by omega) hgno hO9 k9 (fun b e => e.1)
            have hkl : ∀ b, Eqb la b → kb _ b = some (some 61) := fun b e => (hL.outer.kb.at_.eqb e).2
            have hG9 := hG.chgK k9 (fun b _ e => by rw [hkl b e.1]; decide)
            have hB9 := hB.chg k9 (fun e => by have h1 := hkl _ e.1; rw [hB.kb] at h1; exact absurd h1 (by decide))
            have k9' := k9.mono (M' := fun x => w.heap.size ≤ x) (fun x _ e => e.2)
            have e10 : (ls ++ [(⟨some ⟨gn, 0, none⟩, cn, Z⟩ : Sr)]).length = i + 1 := hL9.len
            rw [e10]
            have zs_k9' := k9'.size
            replace hw := hw.chg k9' (by first | (intro x h1 h2; exact h2) | (intro x h1 h2; have h3 : _ = _ := h2; exfalso; omega) | (intro b h1 h2 h3; have h4 : _ = _ := h3; (try dsimp only at h2); exfalso; omega) | (intro h1; have h2 : _ = _ := h1; exfalso; omega) | (intro h1; have h2 : _ ≤ _ := h1; exfalso; omega) | (intros; exfalso; (try dsimp only at *); omega) | (intro b h1 h2 h3; exfalso; have h4 := h3.2; (try dsimp only at *); omega) | (intro h1; exfalso; have h4 := h1.2; (try dsimp only at *); omega))
            replace hd_3 := hd_3.chg k9' (by first | (intro x h1 h2; exact h2) | (intro x h1 h2; have h3 : _ = _ := h2; exfalso; omega) | (intro b h1 h2 h3; have h4 : _ = _ := h3; (try dsimp only at h2); exfalso; omega) | (intro h1; have h2 : _ = _ := h1; exfalso; omega) | (intro h1; have h2 : _ ≤ _ := h1; exfalso; omega) | (intros; exfalso; (try dsimp only at *); omega) | (intro b h1 h2 h3; exfalso; have h4 := h3.2; (try dsimp only at *); omega) | (intro h1; exfalso; have h4 := h1.2; (try dsimp only at *); omega))
            refine WL.nil (WX.one ⟨hd_3, ?_⟩)
            refine ⟨?_, trivial⟩
            refine DT.step [(41, _), (39, _)] rfl ⟨rfl, rfl, trivial⟩ rfl (fun wq_15 kq_15 => ?_)
            have zs_kq_15 := kq_15.size
            replace hw := hw.pure kq_15
            replace hd_3 := hd_3.pure kq_15
            replace hL9 := hL9.pure kq_15
            replace hG9 := hG9.pure kq_15
            replace hB9 := hB9.pure kq_15
            refine WL.store Try.sizeOf57 hB9 rfl rfl rfl rfl ?_
            intro w11 z11 hB11 k11
            have hL11 := hL9.chgK k11 (fun b _ e => by rw [show b = g_1 from e, hB9.kb]; exact ⟨by decide, by decide⟩)
            have hG11 := hG9.chgK k11 (fun b _ e => by rw [show b = g_1 from e, hB9.kb]; decide)
            have k11' := k11.mono (M' := fun x => w.heap.size ≤ x) (fun x _ e => by rw [show x = g_1 from e]; exact hgw)
            have zs_k11' := k11'.size
            replace hw := hw.chg k11' (by first | (intro x h1 h2; exact h2) | (intro x h1 h2; have h3 : _ = _ := h2; exfalso; omega) | (intro b h1 h2 h3; have h4 : _ = _ := h3; (try dsimp only at h2); exfalso; omega) | (intro h1; have h2 : _ = _ := h1; exfalso; omega) | (intro h1; have h2 : _ ≤ _ := h1; exfalso; omega) | (intros; exfalso; (try dsimp only at *); omega) | (intro b h1 h2 h3; exfalso; have h4 := h3.2; (try dsimp only at *); omega) | (intro h1; exfalso; have h4 := h1.2; (try dsimp only at *); omega))
            replace hd_3 := hd_3.chg k11' (by first | (intro x h1 h2; exact h2) | (intro x h1 h2; have h3 : _ = _ := h2; exfalso; omega) | (intro b h1 h2 h3; have h4 : _ = _ := h3; (try dsimp only at h2); exfalso; omega) | (intro h1; have h2 : _ = _ := h1; exfalso; omega) | (intro h1; have h2 : _ ≤ _ := h1; exfalso; omega) | (intros; exfalso; (try dsimp only at *); omega) | (intro b h1 h2 h3; exfalso; have h4 := h3.2; (try dsimp only at *); omega) | (intro h1; exfalso; have h4 := h1.2; (try dsimp only at *); omega))
            refine WL.nil (WX.one0 (v := undef) ⟨hd_3, ?_⟩)
            refine DT.done (fun we_16 ke_16 => ?_) _
            have zs_ke_16 := ke_16.size
            replace hw := hw.pure ke_16
            replace hd_3 := hd_3.pure ke_16
            replace hL11 := hL11.pure ke_16
            replace hG11 := hG11.pure ke_16
            replace hB11 := hB11.pure ke_16
            rotate_left
            all_goals
              refine WX.block_normal (WX.then_normal (WC.region (WL.move rfl rfl (WL.add64 rfl rfl (by first | omega | (constructor <;> omega)) rfl (WL.assign rfl rfl (WL.nil (?_)))))))
              exact WX.loop_next (i + 1, a9, c9, ls ++ [(⟨some ⟨gn, 0, none⟩, cn, Z⟩ : Sr)]) ⟨rfl, rfl, rfl, rfl, trivial⟩ ⟨by show i + 1 ≤ _; omega, hB11, hL11, hG11, hw⟩ (by show dn - (i + 1) < dn - i; omega)
          ·
            refine WL.nil (WX.then_normal (WC.cond_false rfl (WC.exit (WX.then_exit (WX.then_exit (WX.block_here (WX.then_normal (?_))))))))
            refine WC.seq (WC.region (WL.move rfl rfl (WL.assign rfl rfl (WL.assign rfl rfl (WL.nil (WX.then_normal (WC.ret (?_))))))))
            refine WX.ret2 (.inl rfl) Try.results11 rfl rfl ?_
            first
              | (exfalso; omega)
              | (have hid : i = dn := by omega
                 subst hid
                 refine ⟨_, rfl, ⟨g_1, rfl, hgw, hok, (fun p hp => by cases hp), la, lc, ls, some ⟨g, 0, none⟩, i, none, 0, ?_, hL.congr (fun _ _ _ _ => rfl), hG, Row.nil _ _ _ _⟩, hw⟩
                 show Blk w2 g_1 60 [.slice la i lc, .slice (some ⟨g, 0, none⟩) (List.replicate i false).length i, .slice none 0 0, .bool false, vi (-1)]
                 rw [List.length_replicate]
                 exact hB)
theorem dNew_no (w : World) {d s : Int} (h : ¬ ((1 ≤ d ∧ d ≤ 16) ∧ (1 ≤ s ∧ s ≤ 2000))) :
    Calls Try.prog 11 [vi d, vi s].toArray w (Ret fun v w' => v = .tuple #[.pointer none, vi 1] ∧ Chg Nob w w') := by
  have hw := Chg.refl Nob w
  refine Calls.of_WC Try.func11 rfl Try.ntmps11 (by simp) ?_
  refine WC.seq (WC.region (WL.assign rfl rfl (WL.assign rfl rfl (WL.nil (WX.then_normal (WC.seq (WC.seq (?_))))))))
  refine WC.region (WL.move rfl rfl (?_))
  refine WL.lss? rfl rfl rfl (fun h9 => ?_) (fun h9 => ?_)
  ·
    refine WL.move rfl rfl (WL.pass rfl rfl rfl rfl (WL.pass rfl rfl rfl rfl (WL.pickT rfl rfl rfl (WL.move rfl rfl (WL.pass rfl rfl rfl rfl (WL.pass rfl rfl rfl rfl (WL.pickT rfl rfl rfl (?_))))))))
    refine WL.move rfl rfl (WL.pass rfl rfl rfl rfl (WL.pass rfl rfl rfl rfl (WL.pickT rfl rfl rfl (WL.nil (WX.then_normal (WC.cond_true rfl (WC.seq (?_))))))))
    refine WC.region (WL.assign rfl rfl (WL.assign rfl rfl (WL.nil (WX.then_normal (WC.ret (WX.then_ret (?_)))))))
    refine WX.ret2 (.inl rfl) Try.results11 rfl rfl ?_
    exact ⟨_, rfl, rfl, hw⟩
  ·
    refine WL.move rfl rfl (WL.want rfl rfl rfl (WL.move rfl rfl (WL.want rfl rfl rfl (?_))))
    refine WL.gtr? rfl rfl rfl (fun h12 => ?_) (fun h12 => ?_)
    ·
      refine WL.pickF rfl rfl rfl (WL.move rfl rfl (WL.pass rfl rfl rfl rfl (WL.pass rfl rfl rfl rfl (WL.pickT rfl rfl rfl (WL.move rfl rfl (WL.pass rfl rfl rfl rfl (WL.pass rfl rfl rfl rfl (?_))))))))
      refine WL.pickT rfl rfl rfl (WL.nil (WX.then_normal (WC.cond_true rfl (WC.seq (WC.region (WL.assign rfl rfl (WL.assign rfl rfl (?_))))))))
      refine WL.nil (WX.then_normal (WC.ret (WX.then_ret (?_))))
      refine WX.ret2 (.inl rfl) Try.results11 rfl rfl ?_
      exact ⟨_, rfl, rfl, hw⟩
    ·
      refine WL.pickF rfl rfl rfl (WL.move rfl rfl (WL.want rfl rfl rfl (WL.move rfl rfl (WL.want rfl rfl rfl (?_)))))
      refine WL.lss? rfl rfl rfl (fun h16 => ?_) (fun h16 => ?_)
      ·
        refine WL.pickF rfl rfl rfl (WL.move rfl rfl (WL.pass rfl rfl rfl rfl (WL.pass rfl rfl rfl rfl (WL.pickT rfl rfl rfl (WL.nil (WX.then_normal (WC.cond_true rfl (?_))))))))
        refine WC.seq (WC.region (WL.assign rfl rfl (WL.assign rfl rfl (WL.nil (WX.then_normal (WC.ret (WX.then_ret (?_))))))))
        refine WX.ret2 (.inl rfl) Try.results11 rfl rfl ?_
        exact ⟨_, rfl, rfl, hw⟩
      ·
        refine WL.pickF rfl rfl rfl (WL.move rfl rfl (WL.want rfl rfl rfl (WL.move rfl rfl (WL.want rfl rfl rfl (?_)))))
        refine WL.gtr? rfl rfl rfl (fun h20 => ?_) (fun h20 => ?_)
        ·
          refine WL.pickF rfl rfl rfl (WL.nil (WX.then_normal (WC.cond_true rfl (WC.seq (WC.region (WL.assign rfl rfl (WL.assign rfl rfl (?_))))))))
          refine WL.nil (WX.then_normal (WC.ret (WX.then_ret (?_))))
          refine WX.ret2 (.inl rfl) Try.results11 rfl rfl ?_
          exact ⟨_, rfl, rfl, hw⟩
        ·
          refine WL.pickF rfl rfl rfl (WL.nil (WX.then_normal (WC.cond_false rfl (WC.skip (WX.then_normal (WC.seq (WC.region (?_))))))))
          refine WL.move rfl rfl (?_)
          exfalso
          exact h ⟨⟨by omega, by omega⟩, by omega, by omega⟩
end Go.Proofs.Ytcdbkfaebgficaa
namespace Go.Proofs.Ytcdbkfaebgficaa
open Go.RowKit Go.HL

/-! more on racks that have power -/
theorem rotS_dn (s : RA) (p : Pl) (n : Int) : (rotS s p n).dn = s.dn := by unfold rotS; split <;> rfl
theorem rotS_sn (s : RA) (p : Pl) (n : Int) : (rotS s p n).sn = s.sn := by unfold rotS; split <;> rfl
theorem mput_len {K V : Type} [DecidableEq K] {l : List (K × V)} {k : K} {v : V} (h : (mget l k).isSome = true) : (mput l k v).length = l.length := by
  induction l with
  | nil => cases h
  | cons p r ih =>
    obtain ⟨k', u⟩ := p
    simp only [mget] at h
    simp only [mput]
    by_cases e : k = k'
    · simp [e]
    · rw [if_neg e] at h
      simp [e, ih h]
theorem rotS_len (s : RA) (p : Pl) (n : Int) : (rotS s p n).waits.length = s.waits.length := by
  unfold rotS
  split
  · rename_i u h
    show (putW s.waits p _).length = _
    unfold putW
    rw [List.length_reverse, mput_len (by unfold newV at h; rw [h]; rfl), List.length_reverse]
  · rfl
end Go.Proofs.Ytcdbkfaebgficaa
namespace Go.Proofs.Ytcdbkfaebgficaa
open Go.RowKit Go.HL

/-! both racks side by side -/
structure H2 (L : Nat → Prop) (w : World) (R D : Nat) (A B : Nat → Prop) (s t : RA) : Prop where
  r : RK A w R s
  d : RD B w D t
  a : ∀ x, A x → L x ∧ x < w.heap.size
  b : ∀ x, B x → L x ∧ x < w.heap.size
  ne : ∀ x, A x → B x → False
section
variable {L M : Nat → Prop} {w w' : World} {R D : Nat} {A B : Nat → Prop} {s s' t t' : RA}
theorem H2.pure (h : H2 L w R D A B s t) (k : Chg Nob w w') : H2 L w' R D A B s t := by
  have z := k.size
  exact ⟨h.r.pure k, h.d.pure k, fun x hx => ⟨(h.a x hx).1, by have := (h.a x hx).2; omega⟩, fun x hx => ⟨(h.b x hx).1, by have := (h.b x hx).2; omega⟩, h.ne⟩
theorem H2.chg (h : H2 L w R D A B s t) (k : Chg M w w') (hd : ∀ x, A x ∨ B x → M x → False) : H2 L w' R D A B s t := by
  have z := k.size
  exact ⟨h.r.chg k (fun b _ h1 h2 => hd b (.inl h1) h2), h.d.chg k (fun b _ h1 h2 => hd b (.inr h1) h2), fun x hx => ⟨(h.a x hx).1, by have := (h.a x hx).2; omega⟩, fun x hx => ⟨(h.b x hx).1, by have := (h.b x hx).2; omega⟩, h.ne⟩
theorem H2.mono {L' : Nat → Prop} (h : H2 L w R D A B s t) (k : ∀ x, L x → x < w.heap.size → L' x) : H2 L' w R D A B s t :=
  ⟨h.r, h.d, fun x hx => ⟨k x (h.a x hx).1 (h.a x hx).2, (h.a x hx).2⟩, fun x hx => ⟨k x (h.b x hx).1 (h.b x hx).2, (h.b x hx).2⟩, h.ne⟩
theorem H2.left (h : H2 L w R D A B s t) (hL : ∀ x, w.heap.size ≤ x → L x) (hR : RK (fun x => A x ∨ w.heap.size ≤ x) w' R s') (k : Chg A w w') : H2 L w' R D (fun x => (A x ∨ w.heap.size ≤ x) ∧ x < w'.heap.size) B s' t := by
  have z := k.size
  refine ⟨hR.old, h.d.chg k (fun b _ h1 h2 => h.ne b h2 h1), fun x hx => ⟨hx.1.elim (fun h1 => (h.a x h1).1) (hL x), hx.2⟩, fun x hx => ⟨(h.b x hx).1, by have := (h.b x hx).2; omega⟩, fun x h1 h2 => ?_⟩
  rcases h1.1 with h3 | h3
  · exact h.ne x h3 h2
  · have := (h.b x h2).2
    omega
theorem H2.left0 (h : H2 L w R D A B s t) (hL : ∀ x, w.heap.size ≤ x → L x) (hR : RK A w' R s') (k : Chg A w w') : H2 L w' R D (fun x => (A x ∨ w.heap.size ≤ x) ∧ x < w'.heap.size) B s' t := h.left hL (hR.mono (fun x hx => .inl hx)) k
theorem H2.right (h : H2 L w R D A B s t) (hL : ∀ x, w.heap.size ≤ x → L x) (hR : RD (fun x => B x ∨ w.heap.size ≤ x) w' D t') (k : Chg B w w') : H2 L w' R D A (fun x => (B x ∨ w.heap.size ≤ x) ∧ x < w'.heap.size) s t' := by
  have z := k.size
  refine ⟨h.r.chg k (fun b _ h1 h2 => h.ne b h1 h2), hR.old, fun x hx => ⟨(h.a x hx).1, by have := (h.a x hx).2; omega⟩, fun x hx => ⟨hx.1.elim (fun h1 => (h.b x h1).1) (hL x), hx.2⟩, fun x h1 h2 => ?_⟩
  rcases h2.1 with h3 | h3
  · exact h.ne x h1 h3
  · have := (h.a x h1).2
    omega
theorem H2.right0 (h : H2 L w R D A B s t) (hL : ∀ x, w.heap.size ≤ x → L x) (hR : RD B w' D t') (k : Chg B w w') : H2 L w' R D A (fun x => (B x ∨ w.heap.size ≤ x) ∧ x < w'.heap.size) s t' := h.right hL (hR.mono (fun x hx => .inl hx)) k
end
/-- what a step leaves -/
structure St (lo : Nat) (w w' : World) (R D : Nat) (s : RA) : Prop where
  ex : ∃ A B t, H2 (fun x => lo ≤ x) w' R D A B t t ∧ t.waits.length ≤ s.waits.length + 1 ∧ t.dn = s.dn ∧ t.sn = s.sn
theorem St.of {lo : Nat} {w w' w2 : World} {R D g : Nat} {s t : RA} {A B : Nat → Prop} (h : H2 (fun x => lo ≤ x ∧ x ≠ g) w' R D A B t t) (k : Chg Nob w' w2) (h1 : t.waits.length ≤ s.waits.length + 1) (h2 : t.dn = s.dn) (h3 : t.sn = s.sn) : St lo w w2 R D s :=
  ⟨A, B, t, (h.pure k).mono (fun x hx _ => hx.1), h1, h2, h3⟩
theorem writeS_len (s : RA) (d a : Int) (b : List UInt8) : (writeS s d a b).waits.length ≤ s.waits.length + 1 ∧ (writeS s d a b).dn = s.dn ∧ (writeS s d a b).sn = s.sn := by
  unfold writeS
  split
  · exact ⟨by show (s.waits ++ [_]).length ≤ _; simp, spendS_dn s, spendS_sn s⟩
  · split
    · exact ⟨by rw [spendS_waits]; omega, spendS_dn s, spendS_sn s⟩
    · exact ⟨by omega, rfl, rfl⟩
theorem flushS_len (s : RA) : (flushS s).waits.length ≤ s.waits.length + 1 ∧ (flushS s).dn = s.dn ∧ (flushS s).sn = s.sn := by
  unfold flushS
  split
  · exact ⟨by rw [spendS_waits]; omega, spendS_dn s, spendS_sn s⟩
  · exact ⟨Nat.zero_le _, spendS_dn s, spendS_sn s⟩
theorem rotI_len (s : RA) (d a n : Int) : (if rotE s d a n = 0 then rotS s (d, a) n else s).waits.length ≤ s.waits.length + 1 ∧ (if rotE s d a n = 0 then rotS s (d, a) n else s).dn = s.dn ∧ (if rotE s d a n = 0 then rotS s (d, a) n else s).sn = s.sn := by
  split
  · exact ⟨by rw [rotS_len]; omega, rotS_dn _ _ _, rotS_sn _ _ _⟩
  · exact ⟨by omega, rfl, rfl⟩
theorem loseI_len (s : RA) (d : Int) : (if isS s d then loseS s d true else s).waits.length ≤ s.waits.length + 1 ∧ (if isS s d then loseS s d true else s).dn = s.dn ∧ (if isS s d then loseS s d true else s).sn = s.sn := by
  split
  · exact ⟨by have := stay_len d s.waits; show (stay d s.waits).length ≤ _; omega, rfl, rfl⟩
  · exact ⟨by omega, rfl, rfl⟩
theorem replaceI_len (s : RA) (d : Int) : (if isS s d then replaceS s d else s).waits.length ≤ s.waits.length + 1 ∧ (if isS s d then replaceS s d else s).dn = s.dn ∧ (if isS s d then replaceS s d else s).sn = s.sn := by
  split
  · exact ⟨by have := stay_len d s.waits; show (stay d s.waits).length ≤ _; omega, rfl, rfl⟩
  · exact ⟨by omega, rfl, rfl⟩
theorem bytes_any (f more : Int) (hm : -1000 ≤ more ∧ more ≤ 1000) : ∃ Bx : List UInt8, Bx.length ≤ 400 ∧ ∀ w, Calls Try.prog 18 [vi f, vi more].toArray w (Ret fun v w' => (∃ g, v = .slice (some ⟨g, 0, none⟩) Bx.length Bx.length ∧ Row (· = g) w' 5 eb (some ⟨g, 0, none⟩) Bx.length Bx ∧ w.heap.size ≤ g ∧ g < w'.heap.size) ∧ Chg Nob w w') := by
  refine ⟨bytesN f (max (min (128 + more) 400) 0).toNat, by rw [bytesN_len]; omega, fun w => ?_⟩
  have h1 := bytes_calls w f more (max (min (128 + more) 400) 0).toNat hm (by omega)
  rw [bytesN_len] at *
  exact h1
end Go.Proofs.Ytcdbkfaebgficaa
