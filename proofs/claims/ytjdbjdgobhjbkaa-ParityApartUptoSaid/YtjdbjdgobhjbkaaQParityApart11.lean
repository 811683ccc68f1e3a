import Derived.Test.YtjdbjdgobhjbkaaQParityApart10
namespace Go.Proofs.Ytjdbjdgobhjbkaa
open Go.RowKit Go.HL

theorem docRebuild_bad {S S2 : Nat → Prop} {w : World} {ao ab : Option Addr} {c cb : Nat} {rs : List Rw} {bad : List Int} (hc : RS S w ao c rs) (hb : RSl S2 w ei ab cb bad) (hl : rs.length * 24 ≤ 140737488351232) (hbl : bad.length ≤ 140737488351232) (he : errB (xss rs) bad ≠ 0) :
    Calls Try.prog 18 [.slice ao rs.length c, .slice ab bad.length cb].toArray w (Ret fun v w' => v = .tuple #[.slice none 0 0, vi (errB (xss rs) bad)] ∧ Chg Nob w w') := by
  replace hc := hc.old
  replace hb := hb.old
  have hw := Chg.refl Nob w
  refine Calls.of_WC Try.func18 rfl Try.ntmps18 (by simp) ?_
  refine WC.seq (WC.region (WL.assign rfl rfl (WL.assign rfl rfl (WL.nil (WX.then_normal (WC.seq (WC.region (?_))))))))
  refine WL.move rfl rfl (WL.move rfl rfl (?_))
  refine WL.call eg_33 rfl rfl (refRight_calls hc hb hl hbl) ?_
  rintro v w1 ⟨rfl, k1⟩
  have zs_k1 := k1.size
  replace hc := hc.pure k1
  replace hb := hb.pure k1
  replace hw := hw.pure k1
  refine WL.assign rfl rfl (WL.nil (WX.then_normal (WC.seq (WC.seq (WC.region (WL.move rfl rfl (?_)))))))
  refine WL.neqT rfl rfl rfl (by first | rfl | omega | decide) ?_
  refine WL.nil (WX.then_normal (WC.cond_true rfl (WC.seq (WC.region (WL.move rfl rfl (WL.assign rfl rfl (WL.assign rfl rfl (?_))))))))
  refine WL.nil (WX.then_normal (WC.ret (WX.then_ret (?_))))
  refine WX.ret2 (.inl rfl) Try.results18 rfl rfl ?_
  exact ⟨_, rfl, rfl, hw⟩
set_option maxHeartbeats 16000000 in
theorem docRebuild_good {S S2 : Nat → Prop} {w : World} {ao ab : Option Addr} {c cb k n : Nat} {rs : List Rw} {bad : List Int} (hc : RS S w ao c rs) (hb : RSl S2 w ei ab cb bad) (hk : rs.length = k + 3) (hk1 : 1 ≤ k ∧ k ≤ 13) (he : errB (xss rs) bad = 0) (hb3 : bad.length ≤ 3) (hn : lenB (xss rs) bad = (n : Int)) (hev : EvenB (xss rs) bad n) :
    Calls Try.prog 18 [.slice ao rs.length c, .slice ab bad.length cb].toArray w (Ret fun v w' => (∃ oo co ps, v = .tuple #[.slice oo ps.length co, vi 0] ∧ RS (fun _ => True) w' oo co ps ∧ RB (xss rs) bad k n (xss ps)) ∧ Chg Nob w w') := by
  replace hc := hc.old
  replace hb := hb.old
  have hw := Chg.refl Nob w
  have hn1 := hev.1
  have hfl := from_len k hb3
  have hL3 : (lostL k bad).length ≤ 3 := by rw [← hfl, fromL, List.length_take]; exact Nat.le_trans (Nat.min_le_right _ _) (List.length_filter_le _ _)
  have hlil := li_len (lostL k bad)
  refine Calls.of_WC Try.func18 rfl Try.ntmps18 (by simp) ?_
  refine WC.seq (WC.region (WL.assign rfl rfl (WL.assign rfl rfl (WL.nil (WX.then_normal (WC.seq (WC.region (?_))))))))
  refine WL.move rfl rfl (WL.move rfl rfl (?_))
  refine WL.call eg_33 rfl rfl (refRight_calls hc hb (by omega) (by omega)) ?_
  rintro v w1 ⟨rfl, k1⟩
  rw [he]
  have zs_k1 := k1.size
  replace hc := hc.pure k1
  replace hb := hb.pure k1
  replace hw := hw.pure k1
  refine WL.assign rfl rfl (WL.nil (WX.then_normal (WC.seq (WC.seq (WC.region (WL.move rfl rfl (?_)))))))
  refine WL.neqF rfl rfl rfl (by first | rfl | omega | decide) ?_
  refine WL.nil (WX.then_normal (WC.cond_false rfl (WC.skip (WX.then_normal (WC.seq (WC.region (WL.move rfl rfl (?_))))))))
  refine WL.move rfl rfl (?_)
  refine WL.call eg_34 rfl rfl (even_calls2 hc hb (by omega) (by omega)) ?_
  rintro v w1 ⟨rfl, k1⟩
  rw [hn]
  have zs_k1 := k1.size
  replace hc := hc.pure k1
  replace hb := hb.pure k1
  replace hw := hw.pure k1
  refine WL.move rfl rfl (WL.len Try.underlying22 rfl rfl (?_))
  refine WL.sub64 rfl rfl (by constructor <;> omega) rfl ?_
  rw [show ((rs.length : Int) - 3) = (k : Int) from by omega]
  refine WL.assign rfl rfl (WL.assign rfl rfl (WL.nil (WX.then_normal (WC.seq (WC.region (WL.assign rfl rfl (WL.nil (?_))))))))
  refine WX.then_normal (WC.seq (WC.region (WL.assign rfl rfl (WL.nil (WX.then_normal (WC.seq (WC.seq (?_))))))))
  refine WC.region (WL.assign rfl rfl (WL.nil (WX.then_normal (WC.block (?_)))))
  have zw0 := hw.size
  refine WC.loop (σ := Nat × (Option Addr × Nat × List Nat × List Rw × Nat) × (Option Addr × Nat)) (fun s => [(0, .slice ao rs.length c), (1, .slice ab bad.length cb), (7, vi n), (8, vi k), (9, .slice s.2.1.1 s.2.1.2.2.2.1.length s.2.1.2.1), (10, .slice s.2.2.1 (li (lostL (min s.1 k) bad)).length s.2.2.2), (11, vi s.1)])
    (fun s w' => s.1 ≤ rs.length ∧ DR (xss rs) bad n s.1 s.2.1.2.2.2.1 ∧ AR w.heap.size w.heap.size s.2.1.2.2.2.2 w' 23 5 s.2.1.1 s.2.1.2.1 s.2.1.2.2.1 s.2.1.2.2.2.1 ∧ s.2.1.2.2.2.2 ≤ w'.heap.size ∧ w.heap.size ≤ s.2.1.2.2.2.2 ∧ Row (fun b => w.heap.size ≤ b ∧ ¬ Eqb s.2.1.1 b ∧ b ∉ s.2.1.2.2.1) w' 3 ei s.2.2.1 s.2.2.2 (li (lostL (min s.1 k) bad)) ∧ RS (· < w.heap.size) w' ao c rs ∧ RSl (· < w.heap.size) w' ei ab cb bad ∧ Chg Nob w w') (fun s => rs.length - s.1) (0, (none, 0, [], [], w.heap.size), (none, 0)) ⟨rfl, rfl, rfl, rfl, rfl, by show some (Value.slice none 0 0) = some (Value.slice none (li (lostL (min 0 k) bad)).length 0); rw [Nat.zero_min]; rfl, rfl, trivial⟩ ⟨Nat.zero_le _, DR.start _ _ _, AR.nil _ _ _ _ _ _, zw0, Nat.le_refl _, by rw [Nat.zero_min]; exact Row.nil _ _ _ _, hc, hb, hw⟩ ?_
  clear hc hb hw
  rintro ⟨i, ⟨oo, co, gs, rs1, n1⟩, ⟨al, cl⟩⟩ w2 ⟨hi, hD, hA, hn1w, hwn1, hL, hc, hb, hw⟩
  simp only at hi hD hA hn1w hwn1 hL
  dsimp only
  have hdl := hD.len
  have hll : (li (lostL (min i k) bad)).length ≤ 16 := by
    rw [li_len, lostL]
    exact Nat.le_trans (List.length_filter_le _ _) (by rw [List.length_range]; omega)
  refine WC.seq (WC.seq (WC.region (WL.move rfl rfl (WL.move rfl rfl (WL.len Try.underlying22 rfl rfl (?_))))))
  refine WL.lss? rfl rfl rfl (fun h39 => ?_) (fun h39 => ?_)
  ·
    refine WL.nil (WX.then_normal (WC.cond_true rfl (WC.skip (WX.then_normal (WC.seq (WC.block (WC.seq (?_))))))))
    refine WC.region (WL.move rfl rfl (WL.move rfl rfl (?_)))
    obtain ⟨N2, hN2⟩ : ∃ N2, N2 = w2.heap.size := ⟨_, rfl⟩
    replace hL := hL.lt
    rw [← hN2] at hL
    obtain ⟨r, hr⟩ : ∃ r, rs[i]? = some r := ⟨_, List.getElem?_eq_getElem (by omega)⟩
    have hrx := xss_at hr
    refine WL.call eg_35 rfl rfl (has_calls hb (by omega) _) ?_
    rintro v w3 ⟨rfl, k3⟩
    have zs_k3 := k3.size
    replace hA := hA.pure k3
    replace hL := hL.pure k3
    replace hc := hc.pure k3
    replace hb := hb.pure k3
    replace hw := hw.pure k3
    by_cases hbi : (i : Int) ∈ bad
    ·
      rw [decide_eq_true hbi]
      refine WL.nil (WX.then_normal (WC.cond_true rfl (WC.seq (WC.region (WL.move rfl rfl (WL.move rfl rfl (?_)))))))
      refine WL.make (e := eb) (0 : UInt8) n n Try.underlying23 info_5 rfl rfl rfl ⟨rfl, rfl, Nat.le_refl _⟩ (by constructor <;> omega) rfl ?_
      intro g wg hg9 kg zg eg
      obtain ⟨zz, hzz⟩ : ∃ zz, zz = List.replicate n (0 : UInt8) := ⟨_, rfl⟩
      rw [← hzz] at hg9 ⊢
      have hg : Row (fun b => b = g) wg 5 eb (some ⟨g, 0, none⟩) n zz := ⟨(fun a ea => by injection ea with ea; subst ea; rfl), hg9.own⟩
      clear hg9
      have zs_kg := kg.size
      replace hA := hA.pure kg
      replace hL := hL.pure kg
      replace hc := hc.pure kg
      replace hb := hb.pure kg
      replace hw := hw.pure kg
      refine WL.build (e := erow) [⟨some ⟨g, 0, none⟩, n, zz⟩] Try.underlying22 Try.sizeOf23 Try.zeroValue23 rfl rfl rfl (by first | (simp [Value.cells]; done) | (simp [Value.cells] <;> rfl) | (simp [Value.cells, eb, ei, es, ebool, e32, e64]; done)) (by decide) rfl ?_
      intro a_b48 w_b48 b48 l_b48 z_b48 k_b48
      have zs_k_b48 := k_b48.size
      replace hA := hA.pure k_b48
      replace hL := hL.pure k_b48
      replace hc := hc.pure k_b48
      replace hb := hb.pure k_b48
      replace hw := hw.pure k_b48
      replace hg := hg.pure k_b48
      refine WL.append (e := erow) (S := fun b => w.heap.size ≤ b) info_23 rfl Try.underlying22 rfl rfl (hA.outer.mono (fun b hb => hb.1)) (b48.rsl.src Try.underlying22) (by show (rs1.length + 1) * 24 ≤ _ ∧ rs1.length + 1 ≤ _; constructor <;> omega) (fun b hb => by omega) rfl ?_
      intro o4 c4 w4 hO4 g4 n4
      have k4 := g4.chg
      have zk4 := k4.size
      have hA4 := hA.snoc (by omega) (by omega) hg (by omega) hO4 g4
      have hL4 := (hL.chg k4 (fun b _ h1 h2 => h1.1.2.1 h2.1)).mono (S' := fun b => w.heap.size ≤ b ∧ ¬ Eqb o4 b ∧ b ∉ gs ++ [g]) (fun b h => ⟨h.1.1, fun e => h.1.2.1 (g4.old (by omega) e), fun hm => by
        rcases List.mem_append.1 hm with h5 | h5
        ·
          exact h.1.2.2 h5
        ·
          have := List.mem_singleton.1 h5
          have := h.2
          omega⟩)
      have hD4 := hD.snoc (r := ⟨some ⟨g, 0, none⟩, n, zz⟩) (by rw [hzz]; exact List.length_replicate) (fun h => absurd hbi h) (fun _ => hzz)
      replace hc := hc.chg k4 (fun b _ h1 h2 => by have := h2.2; omega)
      replace hb := hb.chg k4 (fun b _ h1 h2 => by have := h2.2; omega)
      replace hw := hw.chg k4 (fun x h0 h2 => by have := h2.2; omega)
      refine WL.assign rfl rfl (WL.nil (WX.then_normal (WC.seq (WC.region (WL.move rfl rfl (WL.move rfl rfl (?_)))))))
      refine WL.lss? rfl rfl rfl (fun h52 => ?_) (fun h52 => ?_)
      ·
        refine WL.nil (WX.then_normal (WC.cond_true rfl (WC.region (WL.move rfl rfl (WL.move rfl rfl (?_))))))
        refine WL.build (e := ei) [(i : Int)] Try.underlying33 Try.sizeOf3 Try.zeroValue3 rfl rfl rfl (by first | (simp [Value.cells]; done) | (simp [Value.cells] <;> rfl) | (simp [Value.cells, eb, ei, es, ebool, e32, e64]; done)) (by decide) rfl ?_
        intro a_qn w_qn qn l_qn z_qn k_qn
        have zs_k_qn := k_qn.size
        replace hc := hc.pure k_qn
        replace hb := hb.pure k_qn
        replace hw := hw.pure k_qn
        replace hA4 := hA4.pure k_qn
        replace hL4 := hL4.pure k_qn
        refine WL.append (e := ei) (xs := li (lostL (min i k) bad)) (S := fun b => w.heap.size ≤ b ∧ ¬ Eqb o4 b ∧ b ∉ gs ++ [g]) info_3 rfl Try.underlying33 rfl rfl hL4 (qn.rsl.src Try.underlying33) (by constructor <;> (simp only [List.length_cons, List.length_nil]; omega)) (fun b hb => ⟨by omega, fun e => by have := (hA4.ato e).2; omega, fun hm => by have := (hA4.lt hm).2; omega⟩) rfl ?_
        intro a9 c9 w9 hL9 g9 n9
        have k9 := g9.chg
        have zk9 := k9.size
        have hA9 := hA4.chg2 k9 (fun x e h => h.2.2.1 e) (fun x hx h => h.2.2.2 hx)
        replace hc := hc.chg k9 (fun b _ h1 h2 => by have := h2.2.1; omega)
        replace hb := hb.chg k9 (fun b _ h1 h2 => by have := h2.2.1; omega)
        replace hw := hw.chg k9 (fun x h0 h2 => by have := h2.2.1; omega)
        have e9 : li (lostL (min i k) bad) ++ [(i : Int)] = li (lostL (min (i + 1) k) bad) := by
          rw [Nat.min_eq_left (by omega), Nat.min_eq_left (by omega), lost_next, if_pos hbi, li_app]
          rfl
        rw [e9] at hL9 ⊢
        refine WL.assign rfl rfl (WL.nil (WX.block_normal (WX.then_normal (WC.region (WL.move rfl rfl (WL.add64 rfl rfl (by first | omega | (constructor <;> omega)) rfl (WL.assign rfl rfl (?_))))))))
        refine WL.nil (?_)
        first
          | (have hle : lostL (min (i + 1) k) bad = lostL (min i k) bad := by
               rcases Nat.lt_or_ge i k with h | h
               ·
                 first
                   | (rw [Nat.min_eq_left (by omega), Nat.min_eq_left (by omega), lost_next, if_neg hbi, List.append_nil]; done)
                   | (exfalso; omega)
               ·
                 rw [Nat.min_eq_right (by omega), Nat.min_eq_right (by omega)]
             rw [← hle] at hL4 ⊢
             refine WX.loop_next (i + 1, (o4, c4, gs ++ [g], rs1 ++ [⟨some ⟨g, 0, none⟩, _, _⟩], w4.heap.size), (al, cl)) ⟨rfl, rfl, rfl, rfl, by show _ = some (Value.slice o4 (rs1 ++ [_]).length c4); rfl, rfl, rfl, trivial⟩ ⟨by show i + 1 ≤ _; omega, hD4, hA4, Nat.le_refl _, by show w.heap.size ≤ w4.heap.size; omega, hL4, hc, hb, hw⟩ (by show rs.length - (i + 1) < rs.length - i; omega))
          | exact WX.loop_next (i + 1, (o4, c4, gs ++ [g], rs1 ++ [⟨some ⟨g, 0, none⟩, _, _⟩], w4.heap.size), (a9, c9)) ⟨rfl, rfl, rfl, rfl, rfl, rfl, rfl, trivial⟩ ⟨by show i + 1 ≤ _; omega, hD4, hA9, by show w4.heap.size ≤ w9.heap.size; omega, by show w.heap.size ≤ w4.heap.size; omega, hL9, hc, hb, hw⟩ (by show rs.length - (i + 1) < rs.length - i; omega)
          | exact WX.loop_next (j + 1, a9, c9) ⟨rfl, rfl, rfl, rfl, rfl, rfl, rfl, rfl, rfl, rfl, rfl, rfl, rfl, trivial⟩ ⟨by show j + 1 ≤ _; omega, h19, hk6⟩ (by show (lostL i bad).length - (j + 1) < (lostL i bad).length - j; omega)
          | (have hz0 : fn (mx rs1) i t = 0 := by
               obtain ⟨r, hr⟩ : ∃ r, rs1[i]? = some r := ⟨_, List.getElem?_eq_getElem (by omega)⟩
               have hib : (i : Int) ∈ bad := by
                 rw [li, List.mem_map] at hiL
                 obtain ⟨i', h4, h5⟩ := hiL
                 obtain rfl : i' = i := by omega
                 exact (lost_mem.1 h4).2
               rw [fn_at1 (mx_at hr), (hD.at' i r hr).2.2 hib, List.getD_eq_getElem?_getD, List.getElem?_replicate]
               split <;> rfl
             exact WX.loop_next (i + 1) ⟨rfl, rfl, rfl, rfl, rfl, rfl, rfl, rfl, rfl, rfl, by rw [sumF_step0 (by rw [hz0, mul_zero_r])]; rfl, rfl, trivial⟩ ⟨by omega, hG, hk3⟩ (by show k - (i + 1) < k - i; omega))
          | exact WX.loop_next (i + 1) ⟨rfl, rfl, rfl, rfl, rfl, rfl, rfl, rfl, rfl, rfl, by rw [sumF, hzf, ← UInt8.xor_assoc]; rfl, rfl, trivial⟩ ⟨by omega, hG, hk3⟩ (by show k - (i + 1) < k - i; omega)
          | (have hfe := frP_next k bad q
             rw [if_pos hbq, List.append_nil] at hfe
             rw [← hfe] at hfq hml hms hG ⊢
             exact WX.loop_next (q + 1, (ar, cr, ms), (asu, cs)) ⟨rfl, rfl, rfl, rfl, rfl, rfl, rfl, rfl, rfl, rfl, trivial⟩ ⟨⟨by show q + 1 ≤ 3; omega, hfq⟩, ⟨hml, hms⟩, hG, hk3⟩ (by show 3 - (q + 1) < 3 - q; omega))
          | (have hfe := frP_next i bad q
             rw [if_neg hbq] at hfe
             have hs17 : s16 = rf q := by rw [hs16, hrf, ← hyf]
             have hmf : (frP i bad q).map rf ++ [s16] = (frP i bad (q + 1)).map rf := by rw [hfe, List.map_append, hs17]; rfl
             rw [hmf] at hG5
             refine WX.loop_next (q + 1, (a4, c4, ms ++ [⟨a15, c15, (lostL i bad).map (wtq q)⟩]), (a5, c5)) ⟨rfl, rfl, rfl, rfl, rfl, rfl, rfl, rfl, by show some (Value.slice a5 ((frP i bad q).map rf ++ [s16]).length c5) = some (Value.slice a5 ((frP i bad (q + 1)).map rf).length c5); rw [hmf], rfl, trivial⟩ ⟨⟨by show q + 1 ≤ 3; omega, ?_⟩, ⟨?_, fun a q' r' h1 h2 => ?_⟩, hG5, hk3⟩ (by show 3 - (q + 1) < 3 - q; omega)
             ·
               show (frP i bad (q + 1)).length ≤ _
               rw [hfe, List.length_append]
               show _ + 1 ≤ _
               omega
             ·
               show (ms ++ [_]).length = (frP i bad (q + 1)).length
               rw [hfe, List.length_append, List.length_append, hml]
               rfl
             ·
               have h1' : (frP i bad (q + 1))[a]? = some q' := h1
               have h2' : (ms ++ [⟨a15, c15, (lostL i bad).map (wtq q)⟩])[a]? = some r' := h2
               rw [hfe] at h1'
               rcases get_snoc h1' with h3 | ⟨h3, h4⟩ <;> rcases get_snoc h2' with h5 | ⟨h5, h6⟩
               ·
                 exact hms a q' r' h3 h5
               ·
                 have := (List.getElem?_eq_some_iff.1 h3).1
                 omega
               ·
                 have := (List.getElem?_eq_some_iff.1 h5).1
                 omega
               ·
                 rw [h6, h4])
          | (have hA7 := hA6.upd (q := ⟨some ⟨gr, 0, none⟩, r3c, r3x⟩) (x' := r3x.set t u) hgr hr3 (by rw [List.length_set]) hk6 hrow
             have hL7 := hL6.chg hk6 (fun x _ h1 h2 => h1.1.2.2 (by have h3 : x = gr := h2; rw [h3]; exact List.mem_of_getElem? hgr))
             have hb7 := hb6.chg hk6 (fun x _ h1 h2 => by have h3 : x = gr := h2; omega)
             have hw7 := hw6.chg hk6 (fun x hx h1 => by have h3 : x = gr := h1; omega)
             have hH7 := hH3.set hiL hr3 (fun q _ => by omega) (show t < r3x.length by omega) u
             have hV7 : ∀ (b' i' : Nat), b' < b + 1 → (lostL k bad)[b']? = some i' → fn (mx (rs3.set i ⟨some ⟨gr, 0, none⟩, r3c, r3x.set t u⟩)) i' t = xo.getD b' 0 := by
               intro b' i' h1 h2
               rw [mx_set, fn_setr2 (mx_at hr3) u (show t < r3x.length by omega)]
               rcases Nat.lt_or_ge b' b with h3 | h3
               ·
                 have := sorted_lt (lost_sorted k bad) h2 hi h3
                 rw [if_neg (by omega)]
                 exact hV b' i' h3 h2
               ·
                 have h4 : b' = b := by omega
                 subst h4
                 rw [hi] at h2
                 injection h2 with h2
                 rw [if_pos ⟨h2.symm, rfl⟩, List.getD_eq_getElem?_getD, hu]
                 rfl
             exact WX.loop_next (b + 1, rs3.set i ⟨some ⟨gr, 0, none⟩, r3c, r3x.set t u⟩) ⟨rfl, rfl, rfl, rfl, by show _ = some (Value.slice oo (rs3.set i _).length co); rw [List.length_set]; rfl, rfl, rfl, rfl, rfl, trivial⟩ ⟨by show b + 1 ≤ _; omega, hH7, hV7, by omega, hXr, hA7, hL7, hb7, hw7⟩ (by show (lostL k bad).length - (b + 1) < (lostL k bad).length - b; omega))
          | (have hbl : b = (lostL k bad).length := by omega
             have hE : ∀ q ∈ fromL k bad, sumF k (fun j => mul (wtq q j) (fn (mx rs3) j t)) = fn (mx rs3) (k + q) t := by
               intro q hq
               obtain ⟨a', ha'⟩ := List.getElem?_of_mem hq
               have hqL : k + q ∉ lostL k bad := fun h => by have := (lost_mem.1 h).1; omega
               refine heal_eq (bad := bad) (y0 := fun j => fn (mx rs1) j t) rfl (fun j hj => hH3.same hj t) (fun j hj => ?_) ?_
               ·
                 obtain ⟨r, hr⟩ : ∃ r, rs1[j]? = some r := ⟨_, List.getElem?_eq_getElem (by have := (lost_mem.1 hj).1; omega)⟩
                 show fn (mx rs1) j t = 0
                 rw [fn_at1 (mx_at hr), (hD.at' j r hr).2.2 (lost_mem.1 hj).2, List.getD_eq_getElem?_getD, List.getElem?_replicate]
                 split <;> rfl
               ·
                 rw [hH3.same hqL t]
                 have h1 := hxe a' q ha'
                 rw [List.getD_eq_getElem?_getD (l := (fromL k bad).map rf), List.getElem?_map, ha', hrf] at h1
                 refine Eq.trans (sumF_cong (fun b' hb' => ?_)) (h1.trans (UInt8.xor_comm _ _))
                 obtain ⟨i', hi'⟩ : ∃ i', (lostL k bad)[b']? = some i' := ⟨_, List.getElem?_eq_getElem hb'⟩
                 have h2 := hV b' i' (by omega) hi'
                 have h3 : (lostL k bad).getD b' 0 = i' := by rw [List.getD_eq_getElem?_getD, hi']; rfl
                 rw [h3, h2]
             exact WX.loop_next (t + 1, rs3) ⟨rfl, rfl, rfl, rfl, rfl, rfl, rfl, trivial⟩ ⟨by show t + 1 ≤ n; omega, hH3.step hE, hA, hNw, hL, hb, hw⟩ (by show n - (t + 1) < n - t; omega))
          | exact WX.loop_next (q + 1, rs4.set (k + q) ⟨ap, cp, pr⟩) ⟨rfl, rfl, by show _ = some (Value.slice oo (rs4.set _ _).length co); rw [List.length_set]; rfl, rfl, trivial⟩ ⟨by show q + 1 ≤ 3; omega, hFJ5, by show n1 ≤ _; omega, hO11, hI11, hb, hw⟩ (by show 3 - (q + 1) < 3 - q; omega)
          | exact WX.loop_next (q + 1, rs4) ⟨rfl, rfl, rfl, rfl, trivial⟩ ⟨by show q + 1 ≤ 3; omega, hFJ.skip hbq, by have := hk9.size; show n1 ≤ _; omega, hO, fun r hr => (hI r hr).pure hk9, hb, hw⟩ (by show 3 - (q + 1) < 3 - q; omega)
      ·
        refine WL.nil (WX.then_normal (WC.cond_false rfl (WC.skip (WX.block_normal (WX.then_normal (WC.region (WL.move rfl rfl (?_))))))))
        refine WL.add64 rfl rfl (by first | omega | (constructor <;> omega)) rfl (WL.assign rfl rfl (WL.nil (?_)))
        first
          | (have hle : lostL (min (i + 1) k) bad = lostL (min i k) bad := by
               rcases Nat.lt_or_ge i k with h | h
               ·
                 first
                   | (rw [Nat.min_eq_left (by omega), Nat.min_eq_left (by omega), lost_next, if_neg hbi, List.append_nil]; done)
                   | (exfalso; omega)
               ·
                 rw [Nat.min_eq_right (by omega), Nat.min_eq_right (by omega)]
             rw [← hle] at hL4 ⊢
             refine WX.loop_next (i + 1, (o4, c4, gs ++ [g], rs1 ++ [⟨some ⟨g, 0, none⟩, _, _⟩], w4.heap.size), (al, cl)) ⟨rfl, rfl, rfl, rfl, by show _ = some (Value.slice o4 (rs1 ++ [_]).length c4); rfl, rfl, rfl, trivial⟩ ⟨by show i + 1 ≤ _; omega, hD4, hA4, Nat.le_refl _, by show w.heap.size ≤ w4.heap.size; omega, hL4, hc, hb, hw⟩ (by show rs.length - (i + 1) < rs.length - i; omega))
          | exact WX.loop_next (i + 1, (o4, c4, gs ++ [g], rs1 ++ [⟨some ⟨g, 0, none⟩, _, _⟩], w4.heap.size), (a9, c9)) ⟨rfl, rfl, rfl, rfl, rfl, rfl, rfl, trivial⟩ ⟨by show i + 1 ≤ _; omega, hD4, hA9, by show w4.heap.size ≤ w9.heap.size; omega, by show w.heap.size ≤ w4.heap.size; omega, hL9, hc, hb, hw⟩ (by show rs.length - (i + 1) < rs.length - i; omega)
          | exact WX.loop_next (j + 1, a9, c9) ⟨rfl, rfl, rfl, rfl, rfl, rfl, rfl, rfl, rfl, rfl, rfl, rfl, rfl, trivial⟩ ⟨by show j + 1 ≤ _; omega, h19, hk6⟩ (by show (lostL i bad).length - (j + 1) < (lostL i bad).length - j; omega)
          | (have hz0 : fn (mx rs1) i t = 0 := by
               obtain ⟨r, hr⟩ : ∃ r, rs1[i]? = some r := ⟨_, List.getElem?_eq_getElem (by omega)⟩
               have hib : (i : Int) ∈ bad := by
                 rw [li, List.mem_map] at hiL
                 obtain ⟨i', h4, h5⟩ := hiL
                 obtain rfl : i' = i := by omega
                 exact (lost_mem.1 h4).2
               rw [fn_at1 (mx_at hr), (hD.at' i r hr).2.2 hib, List.getD_eq_getElem?_getD, List.getElem?_replicate]
               split <;> rfl
             exact WX.loop_next (i + 1) ⟨rfl, rfl, rfl, rfl, rfl, rfl, rfl, rfl, rfl, rfl, by rw [sumF_step0 (by rw [hz0, mul_zero_r])]; rfl, rfl, trivial⟩ ⟨by omega, hG, hk3⟩ (by show k - (i + 1) < k - i; omega))
          | exact WX.loop_next (i + 1) ⟨rfl, rfl, rfl, rfl, rfl, rfl, rfl, rfl, rfl, rfl, by rw [sumF, hzf, ← UInt8.xor_assoc]; rfl, rfl, trivial⟩ ⟨by omega, hG, hk3⟩ (by show k - (i + 1) < k - i; omega)
          | (have hfe := frP_next k bad q
             rw [if_pos hbq, List.append_nil] at hfe
             rw [← hfe] at hfq hml hms hG ⊢
             exact WX.loop_next (q + 1, (ar, cr, ms), (asu, cs)) ⟨rfl, rfl, rfl, rfl, rfl, rfl, rfl, rfl, rfl, rfl, trivial⟩ ⟨⟨by show q + 1 ≤ 3; omega, hfq⟩, ⟨hml, hms⟩, hG, hk3⟩ (by show 3 - (q + 1) < 3 - q; omega))
          | (have hfe := frP_next i bad q
             rw [if_neg hbq] at hfe
             have hs17 : s16 = rf q := by rw [hs16, hrf, ← hyf]
             have hmf : (frP i bad q).map rf ++ [s16] = (frP i bad (q + 1)).map rf := by rw [hfe, List.map_append, hs17]; rfl
             rw [hmf] at hG5
             refine WX.loop_next (q + 1, (a4, c4, ms ++ [⟨a15, c15, (lostL i bad).map (wtq q)⟩]), (a5, c5)) ⟨rfl, rfl, rfl, rfl, rfl, rfl, rfl, rfl, by show some (Value.slice a5 ((frP i bad q).map rf ++ [s16]).length c5) = some (Value.slice a5 ((frP i bad (q + 1)).map rf).length c5); rw [hmf], rfl, trivial⟩ ⟨⟨by show q + 1 ≤ 3; omega, ?_⟩, ⟨?_, fun a q' r' h1 h2 => ?_⟩, hG5, hk3⟩ (by show 3 - (q + 1) < 3 - q; omega)
             ·
               show (frP i bad (q + 1)).length ≤ _
               rw [hfe, List.length_append]
               show _ + 1 ≤ _
               omega
             ·
               show (ms ++ [_]).length = (frP i bad (q + 1)).length
               rw [hfe, List.length_append, List.length_append, hml]
               rfl
             ·
               have h1' : (frP i bad (q + 1))[a]? = some q' := h1
               have h2' : (ms ++ [⟨a15, c15, (lostL i bad).map (wtq q)⟩])[a]? = some r' := h2
               rw [hfe] at h1'
               rcases get_snoc h1' with h3 | ⟨h3, h4⟩ <;> rcases get_snoc h2' with h5 | ⟨h5, h6⟩
               ·
                 exact hms a q' r' h3 h5
               ·
                 have := (List.getElem?_eq_some_iff.1 h3).1
                 omega
               ·
                 have := (List.getElem?_eq_some_iff.1 h5).1
                 omega
               ·
                 rw [h6, h4])
          | (have hA7 := hA6.upd (q := ⟨some ⟨gr, 0, none⟩, r3c, r3x⟩) (x' := r3x.set t u) hgr hr3 (by rw [List.length_set]) hk6 hrow
             have hL7 := hL6.chg hk6 (fun x _ h1 h2 => h1.1.2.2 (by have h3 : x = gr := h2; rw [h3]; exact List.mem_of_getElem? hgr))
             have hb7 := hb6.chg hk6 (fun x _ h1 h2 => by have h3 : x = gr := h2; omega)
             have hw7 := hw6.chg hk6 (fun x hx h1 => by have h3 : x = gr := h1; omega)
             have hH7 := hH3.set hiL hr3 (fun q _ => by omega) (show t < r3x.length by omega) u
             have hV7 : ∀ (b' i' : Nat), b' < b + 1 → (lostL k bad)[b']? = some i' → fn (mx (rs3.set i ⟨some ⟨gr, 0, none⟩, r3c, r3x.set t u⟩)) i' t = xo.getD b' 0 := by
               intro b' i' h1 h2
               rw [mx_set, fn_setr2 (mx_at hr3) u (show t < r3x.length by omega)]
               rcases Nat.lt_or_ge b' b with h3 | h3
               ·
                 have := sorted_lt (lost_sorted k bad) h2 hi h3
                 rw [if_neg (by omega)]
                 exact hV b' i' h3 h2
               ·
                 have h4 : b' = b := by omega
                 subst h4
                 rw [hi] at h2
                 injection h2 with h2
                 rw [if_pos ⟨h2.symm, rfl⟩, List.getD_eq_getElem?_getD, hu]
                 rfl
             exact WX.loop_next (b + 1, rs3.set i ⟨some ⟨gr, 0, none⟩, r3c, r3x.set t u⟩) ⟨rfl, rfl, rfl, rfl, by show _ = some (Value.slice oo (rs3.set i _).length co); rw [List.length_set]; rfl, rfl, rfl, rfl, rfl, trivial⟩ ⟨by show b + 1 ≤ _; omega, hH7, hV7, by omega, hXr, hA7, hL7, hb7, hw7⟩ (by show (lostL k bad).length - (b + 1) < (lostL k bad).length - b; omega))
          | (have hbl : b = (lostL k bad).length := by omega
             have hE : ∀ q ∈ fromL k bad, sumF k (fun j => mul (wtq q j) (fn (mx rs3) j t)) = fn (mx rs3) (k + q) t := by
               intro q hq
               obtain ⟨a', ha'⟩ := List.getElem?_of_mem hq
               have hqL : k + q ∉ lostL k bad := fun h => by have := (lost_mem.1 h).1; omega
               refine heal_eq (bad := bad) (y0 := fun j => fn (mx rs1) j t) rfl (fun j hj => hH3.same hj t) (fun j hj => ?_) ?_
               ·
                 obtain ⟨r, hr⟩ : ∃ r, rs1[j]? = some r := ⟨_, List.getElem?_eq_getElem (by have := (lost_mem.1 hj).1; omega)⟩
                 show fn (mx rs1) j t = 0
                 rw [fn_at1 (mx_at hr), (hD.at' j r hr).2.2 (lost_mem.1 hj).2, List.getD_eq_getElem?_getD, List.getElem?_replicate]
                 split <;> rfl
               ·
                 rw [hH3.same hqL t]
                 have h1 := hxe a' q ha'
                 rw [List.getD_eq_getElem?_getD (l := (fromL k bad).map rf), List.getElem?_map, ha', hrf] at h1
                 refine Eq.trans (sumF_cong (fun b' hb' => ?_)) (h1.trans (UInt8.xor_comm _ _))
                 obtain ⟨i', hi'⟩ : ∃ i', (lostL k bad)[b']? = some i' := ⟨_, List.getElem?_eq_getElem hb'⟩
                 have h2 := hV b' i' (by omega) hi'
                 have h3 : (lostL k bad).getD b' 0 = i' := by rw [List.getD_eq_getElem?_getD, hi']; rfl
                 rw [h3, h2]
             exact WX.loop_next (t + 1, rs3) ⟨rfl, rfl, rfl, rfl, rfl, rfl, rfl, trivial⟩ ⟨by show t + 1 ≤ n; omega, hH3.step hE, hA, hNw, hL, hb, hw⟩ (by show n - (t + 1) < n - t; omega))
          | exact WX.loop_next (q + 1, rs4.set (k + q) ⟨ap, cp, pr⟩) ⟨rfl, rfl, by show _ = some (Value.slice oo (rs4.set _ _).length co); rw [List.length_set]; rfl, rfl, trivial⟩ ⟨by show q + 1 ≤ 3; omega, hFJ5, by show n1 ≤ _; omega, hO11, hI11, hb, hw⟩ (by show 3 - (q + 1) < 3 - q; omega)
          | exact WX.loop_next (q + 1, rs4) ⟨rfl, rfl, rfl, rfl, trivial⟩ ⟨by show q + 1 ≤ 3; omega, hFJ.skip hbq, by have := hk9.size; show n1 ≤ _; omega, hO, fun r hr => (hI r hr).pure hk9, hb, hw⟩ (by show 3 - (q + 1) < 3 - q; omega)
    ·
      have hrl : r.xs.length = n := hev.2.2 i r.xs hrx hbi
      rw [decide_eq_false hbi]
      refine WL.nil (WX.then_normal (WC.cond_false rfl (WC.region (WL.move rfl rfl (?_)))))
      refine WL.build (e := eb) [] Try.underlying23 Try.sizeOf5 Try.zeroValue5 rfl rfl rfl (by first | (simp [Value.cells]; done) | (simp [Value.cells] <;> rfl) | (simp [Value.cells, eb, ei, es, ebool, e32, e64]; done)) (by decide) rfl ?_
      intro a_b58 w_b58 b58 l_b58 z_b58 k_b58
      have zs_k_b58 := k_b58.size
      replace hA := hA.pure k_b58
      replace hL := hL.pure k_b58
      replace hc := hc.pure k_b58
      replace hb := hb.pure k_b58
      replace hw := hw.pure k_b58
      refine WL.move rfl rfl (WL.move rfl rfl (?_))
      refine WL.indexT Try.underlying22 Try.sizeOf23 hc.outer rfl rfl ⟨hr, rfl⟩ rfl ?_
      intro b_1 o_1 hc_1
      refine WL.load Try.isAgg23 rfl (hc_1 0 _ rfl) rfl (?_)
      refine WL.append0 (e := eb) info_5 rfl Try.underlying23 rfl rfl b58 ((hc.at hr).src Try.underlying23) (by omega) (by constructor <;> omega) rfl ?_
      intro g cg w5 hg k5 eg z5
      have zs_k5 := k5.size
      replace hA := hA.pure k5
      replace hL := hL.pure k5
      replace hc := hc.pure k5
      replace hb := hb.pure k5
      replace hw := hw.pure k5
      refine WL.build (e := erow) [⟨some ⟨g, 0, none⟩, cg, r.xs⟩] Try.underlying22 Try.sizeOf23 Try.zeroValue23 rfl rfl rfl (by first | (simp [Value.cells]; done) | (simp [Value.cells] <;> rfl) | (simp [Value.cells, eb, ei, es, ebool, e32, e64]; done)) (by decide) rfl ?_
      intro a_b64 w_b64 b64 l_b64 z_b64 k_b64
      have zs_k_b64 := k_b64.size
      replace hA := hA.pure k_b64
      replace hL := hL.pure k_b64
      replace hc := hc.pure k_b64
      replace hb := hb.pure k_b64
      replace hw := hw.pure k_b64
      replace hg := hg.pure k_b64
      refine WL.append (e := erow) (S := fun b => w.heap.size ≤ b) info_23 rfl Try.underlying22 rfl rfl (hA.outer.mono (fun b hb => hb.1)) (b64.rsl.src Try.underlying22) (by show (rs1.length + 1) * 24 ≤ _ ∧ rs1.length + 1 ≤ _; constructor <;> omega) (fun b hb => by omega) rfl ?_
      intro o4 c4 w4 hO4 g4 n4
      have k4 := g4.chg
      have zk4 := k4.size
      have hA4 := hA.snoc (by omega) (by omega) hg (by omega) hO4 g4
      have hL4 := (hL.chg k4 (fun b _ h1 h2 => h1.1.2.1 h2.1)).mono (S' := fun b => w.heap.size ≤ b ∧ ¬ Eqb o4 b ∧ b ∉ gs ++ [g]) (fun b h => ⟨h.1.1, fun e => h.1.2.1 (g4.old (by omega) e), fun hm => by
        rcases List.mem_append.1 hm with h5 | h5
        ·
          exact h.1.2.2 h5
        ·
          have := List.mem_singleton.1 h5
          have := h.2
          omega⟩)
      have hD4 := hD.snoc (r := ⟨some ⟨g, 0, none⟩, cg, r.xs⟩) hrl (fun _ => hrx) (fun h => absurd h hbi)
      replace hc := hc.chg k4 (fun b _ h1 h2 => by have := h2.2; omega)
      replace hb := hb.chg k4 (fun b _ h1 h2 => by have := h2.2; omega)
      replace hw := hw.chg k4 (fun x h0 h2 => by have := h2.2; omega)
      refine WL.assign rfl rfl (WL.nil (WX.block_normal (WX.then_normal (WC.region (WL.move rfl rfl (WL.add64 rfl rfl (by first | omega | (constructor <;> omega)) rfl (WL.assign rfl rfl (?_))))))))
      refine WL.nil (?_)
      first
        | (have hle : lostL (min (i + 1) k) bad = lostL (min i k) bad := by
             rcases Nat.lt_or_ge i k with h | h
             ·
               first
                 | (rw [Nat.min_eq_left (by omega), Nat.min_eq_left (by omega), lost_next, if_neg hbi, List.append_nil]; done)
                 | (exfalso; omega)
             ·
               rw [Nat.min_eq_right (by omega), Nat.min_eq_right (by omega)]
           rw [← hle] at hL4 ⊢
           refine WX.loop_next (i + 1, (o4, c4, gs ++ [g], rs1 ++ [⟨some ⟨g, 0, none⟩, _, _⟩], w4.heap.size), (al, cl)) ⟨rfl, rfl, rfl, rfl, by show _ = some (Value.slice o4 (rs1 ++ [_]).length c4); rfl, rfl, rfl, trivial⟩ ⟨by show i + 1 ≤ _; omega, hD4, hA4, Nat.le_refl _, by show w.heap.size ≤ w4.heap.size; omega, hL4, hc, hb, hw⟩ (by show rs.length - (i + 1) < rs.length - i; omega))
        | exact WX.loop_next (i + 1, (o4, c4, gs ++ [g], rs1 ++ [⟨some ⟨g, 0, none⟩, _, _⟩], w4.heap.size), (a9, c9)) ⟨rfl, rfl, rfl, rfl, rfl, rfl, rfl, trivial⟩ ⟨by show i + 1 ≤ _; omega, hD4, hA9, by show w4.heap.size ≤ w9.heap.size; omega, by show w.heap.size ≤ w4.heap.size; omega, hL9, hc, hb, hw⟩ (by show rs.length - (i + 1) < rs.length - i; omega)
        | exact WX.loop_next (j + 1, a9, c9) ⟨rfl, rfl, rfl, rfl, rfl, rfl, rfl, rfl, rfl, rfl, rfl, rfl, rfl, trivial⟩ ⟨by show j + 1 ≤ _; omega, h19, hk6⟩ (by show (lostL i bad).length - (j + 1) < (lostL i bad).length - j; omega)
        | (have hz0 : fn (mx rs1) i t = 0 := by
             obtain ⟨r, hr⟩ : ∃ r, rs1[i]? = some r := ⟨_, List.getElem?_eq_getElem (by omega)⟩
             have hib : (i : Int) ∈ bad := by
               rw [li, List.mem_map] at hiL
               obtain ⟨i', h4, h5⟩ := hiL
               obtain rfl : i' = i := by omega
               exact (lost_mem.1 h4).2
             rw [fn_at1 (mx_at hr), (hD.at' i r hr).2.2 hib, List.getD_eq_getElem?_getD, List.getElem?_replicate]
             split <;> rfl
           exact WX.loop_next (i + 1) ⟨rfl, rfl, rfl, rfl, rfl, rfl, rfl, rfl, rfl, rfl, by rw [sumF_step0 (by rw [hz0, mul_zero_r])]; rfl, rfl, trivial⟩ ⟨by omega, hG, hk3⟩ (by show k - (i + 1) < k - i; omega))
        | exact WX.loop_next (i + 1) ⟨rfl, rfl, rfl, rfl, rfl, rfl, rfl, rfl, rfl, rfl, by rw [sumF, hzf, ← UInt8.xor_assoc]; rfl, rfl, trivial⟩ ⟨by omega, hG, hk3⟩ (by show k - (i + 1) < k - i; omega)
        | (have hfe := frP_next k bad q
           rw [if_pos hbq, List.append_nil] at hfe
           rw [← hfe] at hfq hml hms hG ⊢
           exact WX.loop_next (q + 1, (ar, cr, ms), (asu, cs)) ⟨rfl, rfl, rfl, rfl, rfl, rfl, rfl, rfl, rfl, rfl, trivial⟩ ⟨⟨by show q + 1 ≤ 3; omega, hfq⟩, ⟨hml, hms⟩, hG, hk3⟩ (by show 3 - (q + 1) < 3 - q; omega))
        | (have hfe := frP_next i bad q
           rw [if_neg hbq] at hfe
           have hs17 : s16 = rf q := by rw [hs16, hrf, ← hyf]
           have hmf : (frP i bad q).map rf ++ [s16] = (frP i bad (q + 1)).map rf := by rw [hfe, List.map_append, hs17]; rfl
           rw [hmf] at hG5
           refine WX.loop_next (q + 1, (a4, c4, ms ++ [⟨a15, c15, (lostL i bad).map (wtq q)⟩]), (a5, c5)) ⟨rfl, rfl, rfl, rfl, rfl, rfl, rfl, rfl, by show some (Value.slice a5 ((frP i bad q).map rf ++ [s16]).length c5) = some (Value.slice a5 ((frP i bad (q + 1)).map rf).length c5); rw [hmf], rfl, trivial⟩ ⟨⟨by show q + 1 ≤ 3; omega, ?_⟩, ⟨?_, fun a q' r' h1 h2 => ?_⟩, hG5, hk3⟩ (by show 3 - (q + 1) < 3 - q; omega)
           ·
             show (frP i bad (q + 1)).length ≤ _
             rw [hfe, List.length_append]
             show _ + 1 ≤ _
             omega
           ·
             show (ms ++ [_]).length = (frP i bad (q + 1)).length
             rw [hfe, List.length_append, List.length_append, hml]
             rfl
           ·
             have h1' : (frP i bad (q + 1))[a]? = some q' := h1
             have h2' : (ms ++ [⟨a15, c15, (lostL i bad).map (wtq q)⟩])[a]? = some r' := h2
             rw [hfe] at h1'
             rcases get_snoc h1' with h3 | ⟨h3, h4⟩ <;> rcases get_snoc h2' with h5 | ⟨h5, h6⟩
             ·
               exact hms a q' r' h3 h5
             ·
               have := (List.getElem?_eq_some_iff.1 h3).1
               omega
             ·
               have := (List.getElem?_eq_some_iff.1 h5).1
               omega
             ·
               rw [h6, h4])
        | (have hA7 := hA6.upd (q := ⟨some ⟨gr, 0, none⟩, r3c, r3x⟩) (x' := r3x.set t u) hgr hr3 (by rw [List.length_set]) hk6 hrow
           have hL7 := hL6.chg hk6 (fun x _ h1 h2 => h1.1.2.2 (by have h3 : x = gr := h2; rw [h3]; exact List.mem_of_getElem? hgr))
           have hb7 := hb6.chg hk6 (fun x _ h1 h2 => by have h3 : x = gr := h2; omega)
           have hw7 := hw6.chg hk6 (fun x hx h1 => by have h3 : x = gr := h1; omega)
           have hH7 := hH3.set hiL hr3 (fun q _ => by omega) (show t < r3x.length by omega) u
           have hV7 : ∀ (b' i' : Nat), b' < b + 1 → (lostL k bad)[b']? = some i' → fn (mx (rs3.set i ⟨some ⟨gr, 0, none⟩, r3c, r3x.set t u⟩)) i' t = xo.getD b' 0 := by
             intro b' i' h1 h2
             rw [mx_set, fn_setr2 (mx_at hr3) u (show t < r3x.length by omega)]
             rcases Nat.lt_or_ge b' b with h3 | h3
             ·
               have := sorted_lt (lost_sorted k bad) h2 hi h3
               rw [if_neg (by omega)]
               exact hV b' i' h3 h2
             ·
               have h4 : b' = b := by omega
               subst h4
               rw [hi] at h2
               injection h2 with h2
               rw [if_pos ⟨h2.symm, rfl⟩, List.getD_eq_getElem?_getD, hu]
               rfl
           exact WX.loop_next (b + 1, rs3.set i ⟨some ⟨gr, 0, none⟩, r3c, r3x.set t u⟩) ⟨rfl, rfl, rfl, rfl, by show _ = some (Value.slice oo (rs3.set i _).length co); rw [List.length_set]; rfl, rfl, rfl, rfl, rfl, trivial⟩ ⟨by show b + 1 ≤ _; omega, hH7, hV7, by omega, hXr, hA7, hL7, hb7, hw7⟩ (by show (lostL k bad).length - (b + 1) < (lostL k bad).length - b; omega))
        | (have hbl : b = (lostL k bad).length := by omega
           have hE : ∀ q ∈ fromL k bad, sumF k (fun j => mul (wtq q j) (fn (mx rs3) j t)) = fn (mx rs3) (k + q) t := by
             intro q hq
             obtain ⟨a', ha'⟩ := List.getElem?_of_mem hq
             have hqL : k + q ∉ lostL k bad := fun h => by have := (lost_mem.1 h).1; omega
             refine heal_eq (bad := bad) (y0 := fun j => fn (mx rs1) j t) rfl (fun j hj => hH3.same hj t) (fun j hj => ?_) ?_
             ·
               obtain ⟨r, hr⟩ : ∃ r, rs1[j]? = some r := ⟨_, List.getElem?_eq_getElem (by have := (lost_mem.1 hj).1; omega)⟩
               show fn (mx rs1) j t = 0
               rw [fn_at1 (mx_at hr), (hD.at' j r hr).2.2 (lost_mem.1 hj).2, List.getD_eq_getElem?_getD, List.getElem?_replicate]
               split <;> rfl
             ·
               rw [hH3.same hqL t]
               have h1 := hxe a' q ha'
               rw [List.getD_eq_getElem?_getD (l := (fromL k bad).map rf), List.getElem?_map, ha', hrf] at h1
               refine Eq.trans (sumF_cong (fun b' hb' => ?_)) (h1.trans (UInt8.xor_comm _ _))
               obtain ⟨i', hi'⟩ : ∃ i', (lostL k bad)[b']? = some i' := ⟨_, List.getElem?_eq_getElem hb'⟩
               have h2 := hV b' i' (by omega) hi'
               have h3 : (lostL k bad).getD b' 0 = i' := by rw [List.getD_eq_getElem?_getD, hi']; rfl
               rw [h3, h2]
           exact WX.loop_next (t + 1, rs3) ⟨rfl, rfl, rfl, rfl, rfl, rfl, rfl, trivial⟩ ⟨by show t + 1 ≤ n; omega, hH3.step hE, hA, hNw, hL, hb, hw⟩ (by show n - (t + 1) < n - t; omega))
        | exact WX.loop_next (q + 1, rs4.set (k + q) ⟨ap, cp, pr⟩) ⟨rfl, rfl, by show _ = some (Value.slice oo (rs4.set _ _).length co); rw [List.length_set]; rfl, rfl, trivial⟩ ⟨by show q + 1 ≤ 3; omega, hFJ5, by show n1 ≤ _; omega, hO11, hI11, hb, hw⟩ (by show 3 - (q + 1) < 3 - q; omega)
        | exact WX.loop_next (q + 1, rs4) ⟨rfl, rfl, rfl, rfl, trivial⟩ ⟨by show q + 1 ≤ 3; omega, hFJ.skip hbq, by have := hk9.size; show n1 ≤ _; omega, hO, fun r hr => (hI r hr).pure hk9, hb, hw⟩ (by show 3 - (q + 1) < 3 - q; omega)
  ·
    refine WL.nil (WX.then_normal (WC.cond_false rfl (WC.exit (WX.then_exit (WX.then_exit (WX.block_here (WX.then_normal (?_))))))))
    refine WC.seq (WC.seq (WC.region (WL.assign rfl rfl (WL.nil (WX.then_normal (?_))))))
    obtain rfl : i = k + 3 := by omega
    rw [show min (k + 3) k = k from by omega] at hL ⊢
    obtain ⟨N1, hN1⟩ : ∃ N1, N1 = w2.heap.size := ⟨_, rfl⟩
    have hLr : RSl (fun b => (w.heap.size ≤ b ∧ ¬ Eqb oo b ∧ b ∉ gs) ∧ b < N1) w2 ei al cl (li (lostL k bad)) := by rw [hN1]; exact hL.rsl.lt
    refine WC.cutG (σ := List Rw) (fun rs2 => [(0, .slice ao rs.length c), (1, .slice ab bad.length cb), (7, vi n), (8, vi k), (9, .slice oo rs2.length co)])
      (fun rs2 w' => HealI rs1 rs2 k (lostL k bad) (fromL k bad) n ∧ AR w.heap.size w.heap.size n1 w' 23 5 oo co gs rs2 ∧ N1 ≤ w'.heap.size ∧ RSl (· < w.heap.size) w' ei ab cb bad ∧ Chg Nob w w') ?_ ?_
    rotate_left
    ·
      refine WC.block ?_
      refine WC.loop (σ := Nat × List Rw) (fun s => [(0, .slice ao rs.length c), (1, .slice ab bad.length cb), (7, vi n), (8, vi k), (9, .slice oo s.2.length co), (10, .slice al (li (lostL k bad)).length cl), (12, vi s.1)])
        (fun s w' => s.1 ≤ n ∧ HealI rs1 s.2 k (lostL k bad) (fromL k bad) s.1 ∧ AR w.heap.size w.heap.size n1 w' 23 5 oo co gs s.2 ∧ N1 ≤ w'.heap.size ∧ RSl (fun b => (w.heap.size ≤ b ∧ ¬ Eqb oo b ∧ b ∉ gs) ∧ b < N1) w' ei al cl (li (lostL k bad)) ∧ RSl (· < w.heap.size) w' ei ab cb bad ∧ Chg Nob w w') (fun s => n - s.1) (0, rs1) ⟨rfl, rfl, rfl, rfl, rfl, rfl, rfl, trivial⟩ ⟨Nat.zero_le _, HealI.start _ _ _ _, hA, by omega, hLr, hb, hw⟩ ?_
      clear hA hL hLr hc hb hw
      rintro ⟨t, rs2⟩ w3 ⟨ht, hH, hA, hNw, hL, hb, hw⟩
      simp only at ht hH hA
      dsimp only
      have hHl := hH.len
      have hk3 := Chg.refl Nob w3
      refine WC.seq (WC.seq (WC.region (WL.move rfl rfl (WL.move rfl rfl (?_)))))
      refine WL.lss? rfl rfl rfl (fun h68 => ?_) (fun h68 => ?_)
      ·
        refine WL.move rfl rfl (WL.want rfl rfl rfl (WL.move rfl rfl (WL.want rfl rfl rfl (WL.len Try.underlying33 rfl rfl (WL.want rfl rfl rfl (?_))))))
        refine WL.gtr? rfl rfl rfl (fun h72 => ?_) (fun h72 => ?_)
        ·
          refine WL.pickT rfl rfl rfl (WL.nil (WX.then_normal (WC.cond_true rfl (WC.skip (WX.then_normal (WC.seq (WC.block (?_))))))))
          refine WC.seq (WC.region (WL.assign rfl rfl (WL.nil (WX.then_normal (WC.seq (WC.region (WL.assign rfl rfl (?_))))))))
          refine WL.nil (WX.then_normal (WC.seq (WC.seq (WC.region (WL.assign rfl rfl (WL.nil (WX.then_normal (?_))))))))
          obtain ⟨rf, hrf⟩ : ∃ rf : Nat → UInt8, rf = fun q => fn (mx rs1) (k + q) t ^^^ sumF k (fun j => mul (wtq q j) (fn (mx rs1) j t)) := ⟨_, rfl⟩
          refine WC.cutG (σ := (Option Addr × Nat × List Rw) × (Option Addr × Nat)) (fun s => [(0, .slice ao rs.length c), (1, .slice ab bad.length cb), (7, vi n), (8, vi k), (9, .slice oo rs2.length co), (10, .slice al (li (lostL k bad)).length cl), (12, vi t), (13, .slice s.1.1 s.1.2.2.length s.1.2.1), (14, .slice s.2.1 ((fromL k bad).map rf).length s.2.2)])
            (fun s w' => (s.1.2.2.length = (fromL k bad).length ∧ ∀ (a q : Nat) (r : Rw), (fromL k bad)[a]? = some q → s.1.2.2[a]? = some r → r.xs = (lostL k bad).map (wtq q)) ∧ GB w3.heap.size w' 23 5 s.1.1 s.1.2.1 s.1.2.2 s.2.1 s.2.2 ((fromL k bad).map rf) ∧ Chg Nob w3 w') ?_ ?_
          rotate_left
          ·
            refine WC.block ?_
            refine WC.loop (σ := Nat × (Option Addr × Nat × List Rw) × (Option Addr × Nat)) (fun s => [(0, .slice ao rs.length c), (1, .slice ab bad.length cb), (7, vi n), (8, vi k), (9, .slice oo rs2.length co), (10, .slice al (li (lostL k bad)).length cl), (12, vi t), (13, .slice s.2.1.1 s.2.1.2.2.length s.2.1.2.1), (14, .slice s.2.2.1 ((frP k bad s.1).map rf).length s.2.2.2), (15, vi s.1)])
              (fun s w' => (s.1 ≤ 3 ∧ (frP k bad s.1).length ≤ (lostL k bad).length) ∧ (s.2.1.2.2.length = (frP k bad s.1).length ∧ ∀ (a q : Nat) (r : Rw), (frP k bad s.1)[a]? = some q → s.2.1.2.2[a]? = some r → r.xs = (lostL k bad).map (wtq q)) ∧ GB w3.heap.size w' 23 5 s.2.1.1 s.2.1.2.1 s.2.1.2.2 s.2.2.1 s.2.2.2 ((frP k bad s.1).map rf) ∧ Chg Nob w3 w') (fun s => 3 - s.1) (0, (none, 0, []), (none, 0)) ⟨rfl, rfl, rfl, rfl, rfl, rfl, rfl, rfl, rfl, rfl, trivial⟩ ⟨⟨Nat.zero_le _, Nat.zero_le _⟩, ⟨rfl, fun a q r h => by cases h⟩, GB.nil _ _ _ _, hk3⟩ ?_
            clear hk3
            rintro ⟨q, ⟨ar, cr, ms⟩, asu, cs⟩ w4 ⟨⟨hq3, hfq⟩, ⟨hml, hms⟩, hG, hk3⟩
            simp only at hq3 hfq hml hms hG
            dsimp only
            refine WC.seq (WC.seq (WC.region (WL.move rfl rfl (?_))))
            refine WL.lss? rfl rfl rfl (fun h77 => ?_) (fun h77 => ?_)
            ·
              refine WL.move rfl rfl (WL.want rfl rfl rfl (WL.move rfl rfl (WL.want rfl rfl rfl (WL.len Try.underlying22 rfl rfl (WL.want rfl rfl rfl (WL.move rfl rfl (WL.want rfl rfl rfl (?_))))))))
              refine WL.len Try.underlying33 rfl rfl (WL.want rfl rfl rfl (?_))
              refine WL.lss? rfl rfl rfl (fun h83 => ?_) (fun h83 => ?_)
              ·
                refine WL.pickT rfl rfl rfl (WL.nil (WX.then_normal (WC.cond_true rfl (WC.skip (WX.then_normal (WC.seq (WC.block (?_))))))))
                refine WC.seq (WC.seq (WC.region (WL.move rfl rfl (WL.move rfl rfl (WL.move rfl rfl (?_))))))
                refine WL.add64 rfl rfl (by constructor <;> omega) rfl ?_
                rw [show ((k : Int) + (q : Int)) = ((k + q : Nat) : Int) from by omega]
                refine WL.call eg_35 rfl rfl (has_calls (hb.pure hk3) (by omega) _) ?_
                rintro v w5 ⟨rfl, k5⟩
                have zs_k5 := k5.size
                replace hG := hG.pure k5
                replace hk3 := hk3.pure k5
                by_cases hbq : ((k + q : Nat) : Int) ∈ bad
                ·
                  rw [decide_eq_true hbq]
                  refine WL.nil (WX.then_normal (WC.cond_true rfl (WC.exit (WX.then_exit (WX.block_here (WX.then_normal (WC.region (?_))))))))
                  refine WL.move rfl rfl (WL.add64 rfl rfl (by first | omega | (constructor <;> omega)) rfl (WL.assign rfl rfl (WL.nil (?_))))
                  first
                    | (have hle : lostL (min (i + 1) k) bad = lostL (min i k) bad := by
                         rcases Nat.lt_or_ge i k with h | h
                         ·
                           first
                             | (rw [Nat.min_eq_left (by omega), Nat.min_eq_left (by omega), lost_next, if_neg hbi, List.append_nil]; done)
                             | (exfalso; omega)
                         ·
                           rw [Nat.min_eq_right (by omega), Nat.min_eq_right (by omega)]
                       rw [← hle] at hL4 ⊢
                       refine WX.loop_next (i + 1, (o4, c4, gs ++ [g], rs1 ++ [⟨some ⟨g, 0, none⟩, _, _⟩], w4.heap.size), (al, cl)) ⟨rfl, rfl, rfl, rfl, by show _ = some (Value.slice o4 (rs1 ++ [_]).length c4); rfl, rfl, rfl, trivial⟩ ⟨by show i + 1 ≤ _; omega, hD4, hA4, Nat.le_refl _, by show w.heap.size ≤ w4.heap.size; omega, hL4, hc, hb, hw⟩ (by show rs.length - (i + 1) < rs.length - i; omega))
                    | exact WX.loop_next (i + 1, (o4, c4, gs ++ [g], rs1 ++ [⟨some ⟨g, 0, none⟩, _, _⟩], w4.heap.size), (a9, c9)) ⟨rfl, rfl, rfl, rfl, rfl, rfl, rfl, trivial⟩ ⟨by show i + 1 ≤ _; omega, hD4, hA9, by show w4.heap.size ≤ w9.heap.size; omega, by show w.heap.size ≤ w4.heap.size; omega, hL9, hc, hb, hw⟩ (by show rs.length - (i + 1) < rs.length - i; omega)
                    | exact WX.loop_next (j + 1, a9, c9) ⟨rfl, rfl, rfl, rfl, rfl, rfl, rfl, rfl, rfl, rfl, rfl, rfl, rfl, trivial⟩ ⟨by show j + 1 ≤ _; omega, h19, hk6⟩ (by show (lostL i bad).length - (j + 1) < (lostL i bad).length - j; omega)
                    | (have hz0 : fn (mx rs1) i t = 0 := by
                         obtain ⟨r, hr⟩ : ∃ r, rs1[i]? = some r := ⟨_, List.getElem?_eq_getElem (by omega)⟩
                         have hib : (i : Int) ∈ bad := by
                           rw [li, List.mem_map] at hiL
                           obtain ⟨i', h4, h5⟩ := hiL
                           obtain rfl : i' = i := by omega
                           exact (lost_mem.1 h4).2
                         rw [fn_at1 (mx_at hr), (hD.at' i r hr).2.2 hib, List.getD_eq_getElem?_getD, List.getElem?_replicate]
                         split <;> rfl
                       exact WX.loop_next (i + 1) ⟨rfl, rfl, rfl, rfl, rfl, rfl, rfl, rfl, rfl, rfl, by rw [sumF_step0 (by rw [hz0, mul_zero_r])]; rfl, rfl, trivial⟩ ⟨by omega, hG, hk3⟩ (by show k - (i + 1) < k - i; omega))
                    | exact WX.loop_next (i + 1) ⟨rfl, rfl, rfl, rfl, rfl, rfl, rfl, rfl, rfl, rfl, by rw [sumF, hzf, ← UInt8.xor_assoc]; rfl, rfl, trivial⟩ ⟨by omega, hG, hk3⟩ (by show k - (i + 1) < k - i; omega)
                    | (have hfe := frP_next k bad q
                       rw [if_pos hbq, List.append_nil] at hfe
                       rw [← hfe] at hfq hml hms hG ⊢
                       exact WX.loop_next (q + 1, (ar, cr, ms), (asu, cs)) ⟨rfl, rfl, rfl, rfl, rfl, rfl, rfl, rfl, rfl, rfl, trivial⟩ ⟨⟨by show q + 1 ≤ 3; omega, hfq⟩, ⟨hml, hms⟩, hG, hk3⟩ (by show 3 - (q + 1) < 3 - q; omega))
                    | (have hfe := frP_next i bad q
                       rw [if_neg hbq] at hfe
                       have hs17 : s16 = rf q := by rw [hs16, hrf, ← hyf]
                       have hmf : (frP i bad q).map rf ++ [s16] = (frP i bad (q + 1)).map rf := by rw [hfe, List.map_append, hs17]; rfl
                       rw [hmf] at hG5
                       refine WX.loop_next (q + 1, (a4, c4, ms ++ [⟨a15, c15, (lostL i bad).map (wtq q)⟩]), (a5, c5)) ⟨rfl, rfl, rfl, rfl, rfl, rfl, rfl, rfl, by show some (Value.slice a5 ((frP i bad q).map rf ++ [s16]).length c5) = some (Value.slice a5 ((frP i bad (q + 1)).map rf).length c5); rw [hmf], rfl, trivial⟩ ⟨⟨by show q + 1 ≤ 3; omega, ?_⟩, ⟨?_, fun a q' r' h1 h2 => ?_⟩, hG5, hk3⟩ (by show 3 - (q + 1) < 3 - q; omega)
                       ·
                         show (frP i bad (q + 1)).length ≤ _
                         rw [hfe, List.length_append]
                         show _ + 1 ≤ _
                         omega
                       ·
                         show (ms ++ [_]).length = (frP i bad (q + 1)).length
                         rw [hfe, List.length_append, List.length_append, hml]
                         rfl
                       ·
                         have h1' : (frP i bad (q + 1))[a]? = some q' := h1
                         have h2' : (ms ++ [⟨a15, c15, (lostL i bad).map (wtq q)⟩])[a]? = some r' := h2
                         rw [hfe] at h1'
                         rcases get_snoc h1' with h3 | ⟨h3, h4⟩ <;> rcases get_snoc h2' with h5 | ⟨h5, h6⟩
                         ·
                           exact hms a q' r' h3 h5
                         ·
                           have := (List.getElem?_eq_some_iff.1 h3).1
                           omega
                         ·
                           have := (List.getElem?_eq_some_iff.1 h5).1
                           omega
                         ·
                           rw [h6, h4])
                    | (have hA7 := hA6.upd (q := ⟨some ⟨gr, 0, none⟩, r3c, r3x⟩) (x' := r3x.set t u) hgr hr3 (by rw [List.length_set]) hk6 hrow
                       have hL7 := hL6.chg hk6 (fun x _ h1 h2 => h1.1.2.2 (by have h3 : x = gr := h2; rw [h3]; exact List.mem_of_getElem? hgr))
                       have hb7 := hb6.chg hk6 (fun x _ h1 h2 => by have h3 : x = gr := h2; omega)
                       have hw7 := hw6.chg hk6 (fun x hx h1 => by have h3 : x = gr := h1; omega)
                       have hH7 := hH3.set hiL hr3 (fun q _ => by omega) (show t < r3x.length by omega) u
                       have hV7 : ∀ (b' i' : Nat), b' < b + 1 → (lostL k bad)[b']? = some i' → fn (mx (rs3.set i ⟨some ⟨gr, 0, none⟩, r3c, r3x.set t u⟩)) i' t = xo.getD b' 0 := by
                         intro b' i' h1 h2
                         rw [mx_set, fn_setr2 (mx_at hr3) u (show t < r3x.length by omega)]
                         rcases Nat.lt_or_ge b' b with h3 | h3
                         ·
                           have := sorted_lt (lost_sorted k bad) h2 hi h3
                           rw [if_neg (by omega)]
                           exact hV b' i' h3 h2
                         ·
                           have h4 : b' = b := by omega
                           subst h4
                           rw [hi] at h2
                           injection h2 with h2
                           rw [if_pos ⟨h2.symm, rfl⟩, List.getD_eq_getElem?_getD, hu]
                           rfl
                       exact WX.loop_next (b + 1, rs3.set i ⟨some ⟨gr, 0, none⟩, r3c, r3x.set t u⟩) ⟨rfl, rfl, rfl, rfl, by show _ = some (Value.slice oo (rs3.set i _).length co); rw [List.length_set]; rfl, rfl, rfl, rfl, rfl, trivial⟩ ⟨by show b + 1 ≤ _; omega, hH7, hV7, by omega, hXr, hA7, hL7, hb7, hw7⟩ (by show (lostL k bad).length - (b + 1) < (lostL k bad).length - b; omega))
                    | (have hbl : b = (lostL k bad).length := by omega
                       have hE : ∀ q ∈ fromL k bad, sumF k (fun j => mul (wtq q j) (fn (mx rs3) j t)) = fn (mx rs3) (k + q) t := by
                         intro q hq
                         obtain ⟨a', ha'⟩ := List.getElem?_of_mem hq
                         have hqL : k + q ∉ lostL k bad := fun h => by have := (lost_mem.1 h).1; omega
                         refine heal_eq (bad := bad) (y0 := fun j => fn (mx rs1) j t) rfl (fun j hj => hH3.same hj t) (fun j hj => ?_) ?_
                         ·
                           obtain ⟨r, hr⟩ : ∃ r, rs1[j]? = some r := ⟨_, List.getElem?_eq_getElem (by have := (lost_mem.1 hj).1; omega)⟩
                           show fn (mx rs1) j t = 0
                           rw [fn_at1 (mx_at hr), (hD.at' j r hr).2.2 (lost_mem.1 hj).2, List.getD_eq_getElem?_getD, List.getElem?_replicate]
                           split <;> rfl
                         ·
                           rw [hH3.same hqL t]
                           have h1 := hxe a' q ha'
                           rw [List.getD_eq_getElem?_getD (l := (fromL k bad).map rf), List.getElem?_map, ha', hrf] at h1
                           refine Eq.trans (sumF_cong (fun b' hb' => ?_)) (h1.trans (UInt8.xor_comm _ _))
                           obtain ⟨i', hi'⟩ : ∃ i', (lostL k bad)[b']? = some i' := ⟨_, List.getElem?_eq_getElem hb'⟩
                           have h2 := hV b' i' (by omega) hi'
                           have h3 : (lostL k bad).getD b' 0 = i' := by rw [List.getD_eq_getElem?_getD, hi']; rfl
                           rw [h3, h2]
                       exact WX.loop_next (t + 1, rs3) ⟨rfl, rfl, rfl, rfl, rfl, rfl, rfl, trivial⟩ ⟨by show t + 1 ≤ n; omega, hH3.step hE, hA, hNw, hL, hb, hw⟩ (by show n - (t + 1) < n - t; omega))
                    | exact WX.loop_next (q + 1, rs4.set (k + q) ⟨ap, cp, pr⟩) ⟨rfl, rfl, by show _ = some (Value.slice oo (rs4.set _ _).length co); rw [List.length_set]; rfl, rfl, trivial⟩ ⟨by show q + 1 ≤ 3; omega, hFJ5, by show n1 ≤ _; omega, hO11, hI11, hb, hw⟩ (by show 3 - (q + 1) < 3 - q; omega)
                    | exact WX.loop_next (q + 1, rs4) ⟨rfl, rfl, rfl, rfl, trivial⟩ ⟨by show q + 1 ≤ 3; omega, hFJ.skip hbq, by have := hk9.size; show n1 ≤ _; omega, hO, fun r hr => (hI r hr).pure hk9, hb, hw⟩ (by show 3 - (q + 1) < 3 - q; omega)
                ·
                  rw [decide_eq_false hbq]
                  refine WL.nil (WX.then_normal (WC.cond_false rfl (WC.skip (WX.then_normal (WC.seq (WC.region (WL.move rfl rfl (?_))))))))
                  refine WL.move rfl rfl (WL.move rfl rfl (?_))
                  refine WL.add64 rfl rfl (by constructor <;> omega) rfl ?_
                  rw [show ((k : Int) + (q : Int)) = ((k + q : Nat) : Int) from by omega]
                  obtain ⟨r2, hr2⟩ : ∃ r, rs2[k + q]? = some r := ⟨_, List.getElem?_eq_getElem (by omega)⟩
                  obtain ⟨gq, hgq, hgao, hgrow, hgne⟩ := (hA.pure hk3).at hr2
                  obtain ⟨r0, hr0, hao0, hcap0, hlen0, hxs0⟩ := hH.back hr2
                  have hqL : k + q ∉ lostL k bad := fun h => by have := (lost_mem.1 h).1; omega
                  have hr2l : r2.xs.length = n := by rw [hlen0]; exact (hD.at' _ r0 hr0).1
                  obtain ⟨y, hy⟩ : ∃ y, r2.xs[t]? = some y := ⟨_, List.getElem?_eq_getElem (by omega)⟩
                  have hyf : fn (mx rs1) (k + q) t = y := by rw [← hH.same hqL, fn_at1 (mx_at hr2), List.getD_eq_getElem?_getD, hy]; rfl
                  refine WL.indexT (e := erow) Try.underlying22 Try.sizeOf23 (hA.pure hk3).outer.rsl rfl rfl ⟨hr2, rfl⟩ rfl ?_
                  intro bb oo2 hcc
                  refine WL.load Try.isAgg23 rfl (hcc 0 _ rfl) rfl ?_
                  refine WL.move rfl rfl (?_)
                  refine WL.indexT (e := eb) Try.underlying23 Try.sizeOf5 hgrow.rsl (by show some (Value.slice r2.ao _ _) = _; rw [hgao]) rfl ⟨hy, rfl⟩ rfl ?_
                  intro bb2 oo3 hcc2
                  refine WL.load Try.isAgg5 rfl (hcc2 0 _ rfl) rfl ?_
                  refine WL.assign rfl rfl (WL.nil (WX.then_normal (WC.seq (WC.seq (WC.region (WL.assign rfl rfl (WL.nil (?_))))))))
                  refine WX.then_normal (WC.block (?_))
                  refine WC.loop (σ := Nat) (fun i => [(0, .slice ao rs.length c), (1, .slice ab bad.length cb), (7, vi n), (8, vi k), (9, .slice oo rs2.length co), (10, .slice al (li (lostL k bad)).length cl), (12, vi t), (13, .slice ar ms.length cr), (14, .slice asu ((frP k bad q).map rf).length cs), (15, vi q), (16, v8 (y ^^^ sumF i (fun j => mul (wtq q j) (fn (mx rs1) j t)))), (17, vi i)])
                    (fun i w' => i ≤ k ∧ GB w3.heap.size w' 23 5 ar cr ms asu cs ((frP k bad q).map rf) ∧ Chg Nob w3 w') (fun i => k - i) 0 ⟨rfl, rfl, rfl, rfl, rfl, rfl, rfl, rfl, rfl, rfl, by show some (v8 y) = some (v8 (y ^^^ 0)); rw [xor_zero'], rfl, trivial⟩ ⟨Nat.zero_le _, hG, hk3⟩ ?_
                  clear hG hk3 hgrow
                  rintro i w6 ⟨hi6, hG, hk3⟩
                  refine WC.seq (WC.seq (WC.region (WL.move rfl rfl (WL.move rfl rfl (?_)))))
                  refine WL.lss? rfl rfl rfl (fun h103 => ?_) (fun h103 => ?_)
                  ·
                    refine WL.nil (WX.then_normal (WC.cond_true rfl (WC.skip (WX.then_normal (WC.seq (WC.block (WC.seq (?_))))))))
                    refine WC.region (WL.move rfl rfl (WL.move rfl rfl (?_)))
                    have hHas := has_calls (hL.pure hk3) (by omega) (i : Int)
                    refine WL.call eg_35 rfl rfl (hHas) ?_
                    rintro v w7 ⟨rfl, k7⟩
                    have zs_k7 := k7.size
                    replace hG := hG.pure k7
                    replace hk3 := hk3.pure k7
                    by_cases hiL : (i : Int) ∈ li (lostL k bad)
                    ·
                      rw [decide_eq_true hiL]
                      refine WL.not rfl rfl (WL.nil (WX.then_normal (WC.cond_false rfl (WC.skip (WX.block_normal (WX.then_normal (WC.region (?_))))))))
                      refine WL.move rfl rfl (WL.add64 rfl rfl (by first | omega | (constructor <;> omega)) rfl (WL.assign rfl rfl (WL.nil (?_))))
                      first
                        | (have hle : lostL (min (i + 1) k) bad = lostL (min i k) bad := by
                             rcases Nat.lt_or_ge i k with h | h
                             ·
                               first
                                 | (rw [Nat.min_eq_left (by omega), Nat.min_eq_left (by omega), lost_next, if_neg hbi, List.append_nil]; done)
                                 | (exfalso; omega)
                             ·
                               rw [Nat.min_eq_right (by omega), Nat.min_eq_right (by omega)]
                           rw [← hle] at hL4 ⊢
                           refine WX.loop_next (i + 1, (o4, c4, gs ++ [g], rs1 ++ [⟨some ⟨g, 0, none⟩, _, _⟩], w4.heap.size), (al, cl)) ⟨rfl, rfl, rfl, rfl, by show _ = some (Value.slice o4 (rs1 ++ [_]).length c4); rfl, rfl, rfl, trivial⟩ ⟨by show i + 1 ≤ _; omega, hD4, hA4, Nat.le_refl _, by show w.heap.size ≤ w4.heap.size; omega, hL4, hc, hb, hw⟩ (by show rs.length - (i + 1) < rs.length - i; omega))
                        | exact WX.loop_next (i + 1, (o4, c4, gs ++ [g], rs1 ++ [⟨some ⟨g, 0, none⟩, _, _⟩], w4.heap.size), (a9, c9)) ⟨rfl, rfl, rfl, rfl, rfl, rfl, rfl, trivial⟩ ⟨by show i + 1 ≤ _; omega, hD4, hA9, by show w4.heap.size ≤ w9.heap.size; omega, by show w.heap.size ≤ w4.heap.size; omega, hL9, hc, hb, hw⟩ (by show rs.length - (i + 1) < rs.length - i; omega)
                        | exact WX.loop_next (j + 1, a9, c9) ⟨rfl, rfl, rfl, rfl, rfl, rfl, rfl, rfl, rfl, rfl, rfl, rfl, rfl, trivial⟩ ⟨by show j + 1 ≤ _; omega, h19, hk6⟩ (by show (lostL i bad).length - (j + 1) < (lostL i bad).length - j; omega)
                        | (have hz0 : fn (mx rs1) i t = 0 := by
                             obtain ⟨r, hr⟩ : ∃ r, rs1[i]? = some r := ⟨_, List.getElem?_eq_getElem (by omega)⟩
                             have hib : (i : Int) ∈ bad := by
                               rw [li, List.mem_map] at hiL
                               obtain ⟨i', h4, h5⟩ := hiL
                               obtain rfl : i' = i := by omega
                               exact (lost_mem.1 h4).2
                             rw [fn_at1 (mx_at hr), (hD.at' i r hr).2.2 hib, List.getD_eq_getElem?_getD, List.getElem?_replicate]
                             split <;> rfl
                           exact WX.loop_next (i + 1) ⟨rfl, rfl, rfl, rfl, rfl, rfl, rfl, rfl, rfl, rfl, by rw [sumF_step0 (by rw [hz0, mul_zero_r])]; rfl, rfl, trivial⟩ ⟨by omega, hG, hk3⟩ (by show k - (i + 1) < k - i; omega))
                        | exact WX.loop_next (i + 1) ⟨rfl, rfl, rfl, rfl, rfl, rfl, rfl, rfl, rfl, rfl, by rw [sumF, hzf, ← UInt8.xor_assoc]; rfl, rfl, trivial⟩ ⟨by omega, hG, hk3⟩ (by show k - (i + 1) < k - i; omega)
                        | (have hfe := frP_next k bad q
                           rw [if_pos hbq, List.append_nil] at hfe
                           rw [← hfe] at hfq hml hms hG ⊢
                           exact WX.loop_next (q + 1, (ar, cr, ms), (asu, cs)) ⟨rfl, rfl, rfl, rfl, rfl, rfl, rfl, rfl, rfl, rfl, trivial⟩ ⟨⟨by show q + 1 ≤ 3; omega, hfq⟩, ⟨hml, hms⟩, hG, hk3⟩ (by show 3 - (q + 1) < 3 - q; omega))
                        | (have hfe := frP_next i bad q
                           rw [if_neg hbq] at hfe
                           have hs17 : s16 = rf q := by rw [hs16, hrf, ← hyf]
                           have hmf : (frP i bad q).map rf ++ [s16] = (frP i bad (q + 1)).map rf := by rw [hfe, List.map_append, hs17]; rfl
                           rw [hmf] at hG5
                           refine WX.loop_next (q + 1, (a4, c4, ms ++ [⟨a15, c15, (lostL i bad).map (wtq q)⟩]), (a5, c5)) ⟨rfl, rfl, rfl, rfl, rfl, rfl, rfl, rfl, by show some (Value.slice a5 ((frP i bad q).map rf ++ [s16]).length c5) = some (Value.slice a5 ((frP i bad (q + 1)).map rf).length c5); rw [hmf], rfl, trivial⟩ ⟨⟨by show q + 1 ≤ 3; omega, ?_⟩, ⟨?_, fun a q' r' h1 h2 => ?_⟩, hG5, hk3⟩ (by show 3 - (q + 1) < 3 - q; omega)
                           ·
                             show (frP i bad (q + 1)).length ≤ _
                             rw [hfe, List.length_append]
                             show _ + 1 ≤ _
                             omega
                           ·
                             show (ms ++ [_]).length = (frP i bad (q + 1)).length
                             rw [hfe, List.length_append, List.length_append, hml]
                             rfl
                           ·
                             have h1' : (frP i bad (q + 1))[a]? = some q' := h1
                             have h2' : (ms ++ [⟨a15, c15, (lostL i bad).map (wtq q)⟩])[a]? = some r' := h2
                             rw [hfe] at h1'
                             rcases get_snoc h1' with h3 | ⟨h3, h4⟩ <;> rcases get_snoc h2' with h5 | ⟨h5, h6⟩
                             ·
                               exact hms a q' r' h3 h5
                             ·
                               have := (List.getElem?_eq_some_iff.1 h3).1
                               omega
                             ·
                               have := (List.getElem?_eq_some_iff.1 h5).1
                               omega
                             ·
                               rw [h6, h4])
                        | (have hA7 := hA6.upd (q := ⟨some ⟨gr, 0, none⟩, r3c, r3x⟩) (x' := r3x.set t u) hgr hr3 (by rw [List.length_set]) hk6 hrow
                           have hL7 := hL6.chg hk6 (fun x _ h1 h2 => h1.1.2.2 (by have h3 : x = gr := h2; rw [h3]; exact List.mem_of_getElem? hgr))
                           have hb7 := hb6.chg hk6 (fun x _ h1 h2 => by have h3 : x = gr := h2; omega)
                           have hw7 := hw6.chg hk6 (fun x hx h1 => by have h3 : x = gr := h1; omega)
                           have hH7 := hH3.set hiL hr3 (fun q _ => by omega) (show t < r3x.length by omega) u
                           have hV7 : ∀ (b' i' : Nat), b' < b + 1 → (lostL k bad)[b']? = some i' → fn (mx (rs3.set i ⟨some ⟨gr, 0, none⟩, r3c, r3x.set t u⟩)) i' t = xo.getD b' 0 := by
                             intro b' i' h1 h2
                             rw [mx_set, fn_setr2 (mx_at hr3) u (show t < r3x.length by omega)]
                             rcases Nat.lt_or_ge b' b with h3 | h3
                             ·
                               have := sorted_lt (lost_sorted k bad) h2 hi h3
                               rw [if_neg (by omega)]
                               exact hV b' i' h3 h2
                             ·
                               have h4 : b' = b := by omega
                               subst h4
                               rw [hi] at h2
                               injection h2 with h2
                               rw [if_pos ⟨h2.symm, rfl⟩, List.getD_eq_getElem?_getD, hu]
                               rfl
                           exact WX.loop_next (b + 1, rs3.set i ⟨some ⟨gr, 0, none⟩, r3c, r3x.set t u⟩) ⟨rfl, rfl, rfl, rfl, by show _ = some (Value.slice oo (rs3.set i _).length co); rw [List.length_set]; rfl, rfl, rfl, rfl, rfl, trivial⟩ ⟨by show b + 1 ≤ _; omega, hH7, hV7, by omega, hXr, hA7, hL7, hb7, hw7⟩ (by show (lostL k bad).length - (b + 1) < (lostL k bad).length - b; omega))
                        | (have hbl : b = (lostL k bad).length := by omega
                           have hE : ∀ q ∈ fromL k bad, sumF k (fun j => mul (wtq q j) (fn (mx rs3) j t)) = fn (mx rs3) (k + q) t := by
                             intro q hq
                             obtain ⟨a', ha'⟩ := List.getElem?_of_mem hq
                             have hqL : k + q ∉ lostL k bad := fun h => by have := (lost_mem.1 h).1; omega
                             refine heal_eq (bad := bad) (y0 := fun j => fn (mx rs1) j t) rfl (fun j hj => hH3.same hj t) (fun j hj => ?_) ?_
                             ·
                               obtain ⟨r, hr⟩ : ∃ r, rs1[j]? = some r := ⟨_, List.getElem?_eq_getElem (by have := (lost_mem.1 hj).1; omega)⟩
                               show fn (mx rs1) j t = 0
                               rw [fn_at1 (mx_at hr), (hD.at' j r hr).2.2 (lost_mem.1 hj).2, List.getD_eq_getElem?_getD, List.getElem?_replicate]
                               split <;> rfl
                             ·
                               rw [hH3.same hqL t]
                               have h1 := hxe a' q ha'
                               rw [List.getD_eq_getElem?_getD (l := (fromL k bad).map rf), List.getElem?_map, ha', hrf] at h1
                               refine Eq.trans (sumF_cong (fun b' hb' => ?_)) (h1.trans (UInt8.xor_comm _ _))
                               obtain ⟨i', hi'⟩ : ∃ i', (lostL k bad)[b']? = some i' := ⟨_, List.getElem?_eq_getElem hb'⟩
                               have h2 := hV b' i' (by omega) hi'
                               have h3 : (lostL k bad).getD b' 0 = i' := by rw [List.getD_eq_getElem?_getD, hi']; rfl
                               rw [h3, h2]
                           exact WX.loop_next (t + 1, rs3) ⟨rfl, rfl, rfl, rfl, rfl, rfl, rfl, trivial⟩ ⟨by show t + 1 ≤ n; omega, hH3.step hE, hA, hNw, hL, hb, hw⟩ (by show n - (t + 1) < n - t; omega))
                        | exact WX.loop_next (q + 1, rs4.set (k + q) ⟨ap, cp, pr⟩) ⟨rfl, rfl, by show _ = some (Value.slice oo (rs4.set _ _).length co); rw [List.length_set]; rfl, rfl, trivial⟩ ⟨by show q + 1 ≤ 3; omega, hFJ5, by show n1 ≤ _; omega, hO11, hI11, hb, hw⟩ (by show 3 - (q + 1) < 3 - q; omega)
                        | exact WX.loop_next (q + 1, rs4) ⟨rfl, rfl, rfl, rfl, trivial⟩ ⟨by show q + 1 ≤ 3; omega, hFJ.skip hbq, by have := hk9.size; show n1 ≤ _; omega, hO, fun r hr => (hI r hr).pure hk9, hb, hw⟩ (by show 3 - (q + 1) < 3 - q; omega)
                    ·
                      rw [decide_eq_false hiL]
                      refine WL.not rfl rfl (WL.nil (WX.then_normal (WC.cond_true rfl (?_))))
                      obtain ⟨r3, hr3⟩ : ∃ r, rs2[i]? = some r := ⟨_, List.getElem?_eq_getElem (by omega)⟩
                      obtain ⟨g3, hg3, hg3ao, hg3row, hg3ne⟩ := (hA.pure hk3).at hr3
                      obtain ⟨r00, hr00, _, _, hlen00, _⟩ := hH.back hr3
                      have hr3l : r3.xs.length = n := by rw [hlen00]; exact (hD.at' _ r00 hr00).1
                      obtain ⟨z, hz⟩ : ∃ z, r3.xs[t]? = some z := ⟨_, List.getElem?_eq_getElem (by omega)⟩
                      have hiL2 : i ∉ lostL k bad := fun h => hiL (by rw [li, List.mem_map]; exact ⟨i, h, rfl⟩)
                      have hzf : fn (mx rs1) i t = z := by rw [← hH.same hiL2, fn_at1 (mx_at hr3), List.getD_eq_getElem?_getD, hz]; rfl
                      have hO3 := (hA.pure hk3).outer.rsl
                      obtain ⟨bO, oO, rfl⟩ := hO3.place hr3
                      replace hg3row := hg3row.rsl
                      refine WC.draw (Nob) [0, 1, 2, 3, 4, 5, 6, 7, 8, 9, 10, 11, 12, 13] [] mixed rfl rfl (fun wd_1 kd_1 zd_1 => ?_)
                      have zs_kd_1 := kd_1.size
                      replace hG := hG.pure kd_1
                      replace hk3 := hk3.pure kd_1
                      replace hO3 := hO3.pure kd_1
                      replace hg3row := hg3row.pure kd_1
                      apply DQ.step (E' := [(16, _)])
                      case ho => rfl
                      case hs => exact ⟨rfl, trivial⟩
                      case hk => rfl
                      case h1 =>
                        intro wq_2 kq_2
                        refine WL.move rfl rfl (?_)
                        refine WL.nil ?_
                        exact WX.one ⟨rfl, by first | exact Chg.refl _ _ | assumption⟩
                      apply DQ.step (E' := [(15, _)])
                      case ho => rfl
                      case hs => exact ⟨rfl, trivial⟩
                      case hk => rfl
                      case h1 =>
                        intro wq_3 kq_3
                        refine WL.move rfl rfl (?_)
                        refine WL.nil ?_
                        exact WX.one ⟨rfl, by first | exact Chg.refl _ _ | assumption⟩
                      apply DQ.step (E' := [(17, _)])
                      case ho => rfl
                      case hs => exact ⟨rfl, trivial⟩
                      case hk => rfl
                      case h1 =>
                        intro wq_4 kq_4
                        refine WL.move rfl rfl (?_)
                        refine WL.nil ?_
                        exact WX.one ⟨rfl, by first | exact Chg.refl _ _ | assumption⟩
                      apply DQ.step (E' := [(111, _), (112, _)])
                      case ho => rfl
                      case hs => exact ⟨rfl, rfl, trivial⟩
                      case hk => rfl
                      case h1 =>
                        intro wq_5 kq_5
                        have zs_kq_5 := kq_5.size
                        replace hG := hG.pure kq_5
                        replace hk3 := hk3.pure kq_5
                        replace hO3 := hO3.pure kq_5
                        replace hg3row := hg3row.pure kq_5
                        refine WL.call eg_36 rfl rfl (power_calls q i (by omega) (by omega) _) ?_
                        rintro v w8 ⟨rfl, k8⟩
                        have zs_k8 := k8.size
                        replace hG := hG.pure k8
                        replace hk3 := hk3.pure k8
                        replace hO3 := hO3.pure k8
                        replace hg3row := hg3row.pure k8
                        refine WL.nil ?_
                        exact WX.one ⟨rfl, by first | exact Chg.refl _ _ | assumption⟩
                      apply DQ.step (E' := [(9, _)])
                      case ho => rfl
                      case hs => exact ⟨rfl, trivial⟩
                      case hk => rfl
                      case h1 =>
                        intro wq_6 kq_6
                        refine WL.move rfl rfl (?_)
                        refine WL.nil ?_
                        exact WX.one ⟨rfl, by first | exact Chg.refl _ _ | assumption⟩
                      apply DQ.step (E' := [(17, _)])
                      case ho => rfl
                      case hs => exact ⟨rfl, trivial⟩
                      case hk => rfl
                      case h1 =>
                        intro wq_7 kq_7
                        refine WL.move rfl rfl (?_)
                        refine WL.nil ?_
                        exact WX.one ⟨rfl, by first | exact Chg.refl _ _ | assumption⟩
                      apply DQ.step (E' := [(114, _), (115, _)])
                      case ho => rfl
                      case hs => exact ⟨rfl, rfl, trivial⟩
                      case hk => rfl
                      case h1 =>
                        intro wq_8 kq_8
                        have zs_kq_8 := kq_8.size
                        replace hG := hG.pure kq_8
                        replace hk3 := hk3.pure kq_8
                        replace hO3 := hO3.pure kq_8
                        replace hg3row := hg3row.pure kq_8
                        refine WL.indexC (e := erow) hO3 Try.underlying22 Try.sizeOf23 rfl rfl ⟨hr3, rfl⟩ rfl ?_
                        refine WL.nil ?_
                        exact WX.one ⟨rfl, by first | exact Chg.refl _ _ | assumption⟩
                      apply DQ.step (E' := [(116, _)])
                      case ho => rfl
                      case hs => exact ⟨rfl, trivial⟩
                      case hk => rfl
                      case h1 =>
                        intro wq_9 kq_9
                        have zs_kq_9 := kq_9.size
                        replace hG := hG.pure kq_9
                        replace hk3 := hk3.pure kq_9
                        replace hO3 := hO3.pure kq_9
                        replace hg3row := hg3row.pure kq_9
                        refine WL.load Try.isAgg23 rfl ((hO3.cellsAt hr3) 0 _ rfl) rfl ?_
                        refine WL.nil ?_
                        exact WX.one ⟨rfl, by first | exact Chg.refl _ _ | assumption⟩
                      apply DQ.step (E' := [(12, _)])
                      case ho => rfl
                      case hs => exact ⟨rfl, trivial⟩
                      case hk => rfl
                      case h1 =>
                        intro wq_10 kq_10
                        refine WL.move rfl rfl (?_)
                        refine WL.nil ?_
                        exact WX.one ⟨rfl, by first | exact Chg.refl _ _ | assumption⟩
                      apply DQ.step (E' := [(117, _), (118, _)])
                      case ho => rfl
                      case hs => exact ⟨rfl, rfl, trivial⟩
                      case hk => rfl
                      case h1 =>
                        intro wq_11 kq_11
                        have zs_kq_11 := kq_11.size
                        replace hG := hG.pure kq_11
                        replace hk3 := hk3.pure kq_11
                        replace hO3 := hO3.pure kq_11
                        replace hg3row := hg3row.pure kq_11
                        refine WL.indexC (e := eb) hg3row Try.underlying23 Try.sizeOf5 (by show some (Value.slice r3.ao _ _) = _; rw [hg3ao]) rfl ⟨hz, rfl⟩ rfl ?_
                        refine WL.nil ?_
                        exact WX.one ⟨rfl, by first | exact Chg.refl _ _ | assumption⟩
                      apply DQ.step (E' := [(119, _)])
                      case ho => rfl
                      case hs => exact ⟨rfl, trivial⟩
                      case hk => rfl
                      case h1 =>
                        intro wq_12 kq_12
                        have zs_kq_12 := kq_12.size
                        replace hG := hG.pure kq_12
                        replace hk3 := hk3.pure kq_12
                        replace hO3 := hO3.pure kq_12
                        replace hg3row := hg3row.pure kq_12
                        refine WL.load Try.isAgg5 rfl ((hg3row.cellsAt hz) 0 _ rfl) rfl ?_
                        refine WL.nil ?_
                        exact WX.one ⟨rfl, by first | exact Chg.refl _ _ | assumption⟩
                      apply DQ.step (E' := [(113, _), (120, _)])
                      case ho => rfl
                      case hs => exact ⟨rfl, rfl, trivial⟩
                      case hk => rfl
                      case h1 =>
                        intro wq_13 kq_13
                        have zs_kq_13 := kq_13.size
                        replace hG := hG.pure kq_13
                        replace hk3 := hk3.pure kq_13
                        replace hO3 := hO3.pure kq_13
                        replace hg3row := hg3row.pure kq_13
                        refine WL.call eg_27 rfl rfl (refMul_calls _ _ _) ?_
                        rintro v w8 ⟨rfl, k8⟩
                        have zs_k8 := k8.size
                        replace hG := hG.pure k8
                        replace hk3 := hk3.pure k8
                        replace hO3 := hO3.pure k8
                        replace hg3row := hg3row.pure k8
                        refine WL.nil ?_
                        exact WX.one ⟨rfl, by first | exact Chg.refl _ _ | assumption⟩
                      apply DQ.step (E' := [(110, _), (121, _)])
                      case ho => rfl
                      case hs => exact ⟨rfl, rfl, trivial⟩
                      case hk => rfl
                      case h1 =>
                        intro wq_14 kq_14
                        refine WL.num rfl rfl (n_xor8 _ _ _ _) rfl (?_)
                        refine WL.nil ?_
                        exact WX.one ⟨rfl, by first | exact Chg.refl _ _ | assumption⟩
                      apply DQ.step (E' := [(122, _)])
                      case ho => rfl
                      case hs => exact ⟨rfl, trivial⟩
                      case hk => rfl
                      case h1 =>
                        intro wq_15 kq_15
                        refine WL.assign rfl rfl (?_)
                        refine WL.nil ?_
                        exact WX.one ⟨rfl, by first | exact Chg.refl _ _ | assumption⟩
                      refine DQ.done (fun _ => ?_)
                      refine DL.done (fun we_16 ke_16 => ?_)
                      have zs_ke_16 := ke_16.size
                      replace hG := hG.pure ke_16
                      replace hk3 := hk3.pure ke_16
                      replace hO3 := hO3.pure ke_16
                      replace hg3row := hg3row.pure ke_16
                      refine WX.block_normal (WX.then_normal (WC.region (WL.move rfl rfl (WL.add64 rfl rfl (by first | omega | (constructor <;> omega)) rfl (WL.assign rfl rfl (WL.nil (?_)))))))
                      first
                        | (have hle : lostL (min (i + 1) k) bad = lostL (min i k) bad := by
                             rcases Nat.lt_or_ge i k with h | h
                             ·
                               first
                                 | (rw [Nat.min_eq_left (by omega), Nat.min_eq_left (by omega), lost_next, if_neg hbi, List.append_nil]; done)
                                 | (exfalso; omega)
                             ·
                               rw [Nat.min_eq_right (by omega), Nat.min_eq_right (by omega)]
                           rw [← hle] at hL4 ⊢
                           refine WX.loop_next (i + 1, (o4, c4, gs ++ [g], rs1 ++ [⟨some ⟨g, 0, none⟩, _, _⟩], w4.heap.size), (al, cl)) ⟨rfl, rfl, rfl, rfl, by show _ = some (Value.slice o4 (rs1 ++ [_]).length c4); rfl, rfl, rfl, trivial⟩ ⟨by show i + 1 ≤ _; omega, hD4, hA4, Nat.le_refl _, by show w.heap.size ≤ w4.heap.size; omega, hL4, hc, hb, hw⟩ (by show rs.length - (i + 1) < rs.length - i; omega))
                        | exact WX.loop_next (i + 1, (o4, c4, gs ++ [g], rs1 ++ [⟨some ⟨g, 0, none⟩, _, _⟩], w4.heap.size), (a9, c9)) ⟨rfl, rfl, rfl, rfl, rfl, rfl, rfl, trivial⟩ ⟨by show i + 1 ≤ _; omega, hD4, hA9, by show w4.heap.size ≤ w9.heap.size; omega, by show w.heap.size ≤ w4.heap.size; omega, hL9, hc, hb, hw⟩ (by show rs.length - (i + 1) < rs.length - i; omega)
                        | exact WX.loop_next (j + 1, a9, c9) ⟨rfl, rfl, rfl, rfl, rfl, rfl, rfl, rfl, rfl, rfl, rfl, rfl, rfl, trivial⟩ ⟨by show j + 1 ≤ _; omega, h19, hk6⟩ (by show (lostL i bad).length - (j + 1) < (lostL i bad).length - j; omega)
                        | (have hz0 : fn (mx rs1) i t = 0 := by
                             obtain ⟨r, hr⟩ : ∃ r, rs1[i]? = some r := ⟨_, List.getElem?_eq_getElem (by omega)⟩
                             have hib : (i : Int) ∈ bad := by
                               rw [li, List.mem_map] at hiL
                               obtain ⟨i', h4, h5⟩ := hiL
                               obtain rfl : i' = i := by omega
                               exact (lost_mem.1 h4).2
                             rw [fn_at1 (mx_at hr), (hD.at' i r hr).2.2 hib, List.getD_eq_getElem?_getD, List.getElem?_replicate]
                             split <;> rfl
                           exact WX.loop_next (i + 1) ⟨rfl, rfl, rfl, rfl, rfl, rfl, rfl, rfl, rfl, rfl, by rw [sumF_step0 (by rw [hz0, mul_zero_r])]; rfl, rfl, trivial⟩ ⟨by omega, hG, hk3⟩ (by show k - (i + 1) < k - i; omega))
                        | exact WX.loop_next (i + 1) ⟨rfl, rfl, rfl, rfl, rfl, rfl, rfl, rfl, rfl, rfl, by rw [sumF, hzf, ← UInt8.xor_assoc]; rfl, rfl, trivial⟩ ⟨by omega, hG, hk3⟩ (by show k - (i + 1) < k - i; omega)
                        | (have hfe := frP_next k bad q
                           rw [if_pos hbq, List.append_nil] at hfe
                           rw [← hfe] at hfq hml hms hG ⊢
                           exact WX.loop_next (q + 1, (ar, cr, ms), (asu, cs)) ⟨rfl, rfl, rfl, rfl, rfl, rfl, rfl, rfl, rfl, rfl, trivial⟩ ⟨⟨by show q + 1 ≤ 3; omega, hfq⟩, ⟨hml, hms⟩, hG, hk3⟩ (by show 3 - (q + 1) < 3 - q; omega))
                        | (have hfe := frP_next i bad q
                           rw [if_neg hbq] at hfe
                           have hs17 : s16 = rf q := by rw [hs16, hrf, ← hyf]
                           have hmf : (frP i bad q).map rf ++ [s16] = (frP i bad (q + 1)).map rf := by rw [hfe, List.map_append, hs17]; rfl
                           rw [hmf] at hG5
                           refine WX.loop_next (q + 1, (a4, c4, ms ++ [⟨a15, c15, (lostL i bad).map (wtq q)⟩]), (a5, c5)) ⟨rfl, rfl, rfl, rfl, rfl, rfl, rfl, rfl, by show some (Value.slice a5 ((frP i bad q).map rf ++ [s16]).length c5) = some (Value.slice a5 ((frP i bad (q + 1)).map rf).length c5); rw [hmf], rfl, trivial⟩ ⟨⟨by show q + 1 ≤ 3; omega, ?_⟩, ⟨?_, fun a q' r' h1 h2 => ?_⟩, hG5, hk3⟩ (by show 3 - (q + 1) < 3 - q; omega)
                           ·
                             show (frP i bad (q + 1)).length ≤ _
                             rw [hfe, List.length_append]
                             show _ + 1 ≤ _
                             omega
                           ·
                             show (ms ++ [_]).length = (frP i bad (q + 1)).length
                             rw [hfe, List.length_append, List.length_append, hml]
                             rfl
                           ·
                             have h1' : (frP i bad (q + 1))[a]? = some q' := h1
                             have h2' : (ms ++ [⟨a15, c15, (lostL i bad).map (wtq q)⟩])[a]? = some r' := h2
                             rw [hfe] at h1'
                             rcases get_snoc h1' with h3 | ⟨h3, h4⟩ <;> rcases get_snoc h2' with h5 | ⟨h5, h6⟩
                             ·
                               exact hms a q' r' h3 h5
                             ·
                               have := (List.getElem?_eq_some_iff.1 h3).1
                               omega
                             ·
                               have := (List.getElem?_eq_some_iff.1 h5).1
                               omega
                             ·
                               rw [h6, h4])
                        | (have hA7 := hA6.upd (q := ⟨some ⟨gr, 0, none⟩, r3c, r3x⟩) (x' := r3x.set t u) hgr hr3 (by rw [List.length_set]) hk6 hrow
                           have hL7 := hL6.chg hk6 (fun x _ h1 h2 => h1.1.2.2 (by have h3 : x = gr := h2; rw [h3]; exact List.mem_of_getElem? hgr))
                           have hb7 := hb6.chg hk6 (fun x _ h1 h2 => by have h3 : x = gr := h2; omega)
                           have hw7 := hw6.chg hk6 (fun x hx h1 => by have h3 : x = gr := h1; omega)
                           have hH7 := hH3.set hiL hr3 (fun q _ => by omega) (show t < r3x.length by omega) u
                           have hV7 : ∀ (b' i' : Nat), b' < b + 1 → (lostL k bad)[b']? = some i' → fn (mx (rs3.set i ⟨some ⟨gr, 0, none⟩, r3c, r3x.set t u⟩)) i' t = xo.getD b' 0 := by
                             intro b' i' h1 h2
                             rw [mx_set, fn_setr2 (mx_at hr3) u (show t < r3x.length by omega)]
                             rcases Nat.lt_or_ge b' b with h3 | h3
                             ·
                               have := sorted_lt (lost_sorted k bad) h2 hi h3
                               rw [if_neg (by omega)]
                               exact hV b' i' h3 h2
                             ·
                               have h4 : b' = b := by omega
                               subst h4
                               rw [hi] at h2
                               injection h2 with h2
                               rw [if_pos ⟨h2.symm, rfl⟩, List.getD_eq_getElem?_getD, hu]
                               rfl
                           exact WX.loop_next (b + 1, rs3.set i ⟨some ⟨gr, 0, none⟩, r3c, r3x.set t u⟩) ⟨rfl, rfl, rfl, rfl, by show _ = some (Value.slice oo (rs3.set i _).length co); rw [List.length_set]; rfl, rfl, rfl, rfl, rfl, trivial⟩ ⟨by show b + 1 ≤ _; omega, hH7, hV7, by omega, hXr, hA7, hL7, hb7, hw7⟩ (by show (lostL k bad).length - (b + 1) < (lostL k bad).length - b; omega))
                        | (have hbl : b = (lostL k bad).length := by omega
                           have hE : ∀ q ∈ fromL k bad, sumF k (fun j => mul (wtq q j) (fn (mx rs3) j t)) = fn (mx rs3) (k + q) t := by
                             intro q hq
                             obtain ⟨a', ha'⟩ := List.getElem?_of_mem hq
                             have hqL : k + q ∉ lostL k bad := fun h => by have := (lost_mem.1 h).1; omega
                             refine heal_eq (bad := bad) (y0 := fun j => fn (mx rs1) j t) rfl (fun j hj => hH3.same hj t) (fun j hj => ?_) ?_
                             ·
                               obtain ⟨r, hr⟩ : ∃ r, rs1[j]? = some r := ⟨_, List.getElem?_eq_getElem (by have := (lost_mem.1 hj).1; omega)⟩
                               show fn (mx rs1) j t = 0
                               rw [fn_at1 (mx_at hr), (hD.at' j r hr).2.2 (lost_mem.1 hj).2, List.getD_eq_getElem?_getD, List.getElem?_replicate]
                               split <;> rfl
                             ·
                               rw [hH3.same hqL t]
                               have h1 := hxe a' q ha'
                               rw [List.getD_eq_getElem?_getD (l := (fromL k bad).map rf), List.getElem?_map, ha', hrf] at h1
                               refine Eq.trans (sumF_cong (fun b' hb' => ?_)) (h1.trans (UInt8.xor_comm _ _))
                               obtain ⟨i', hi'⟩ : ∃ i', (lostL k bad)[b']? = some i' := ⟨_, List.getElem?_eq_getElem hb'⟩
                               have h2 := hV b' i' (by omega) hi'
                               have h3 : (lostL k bad).getD b' 0 = i' := by rw [List.getD_eq_getElem?_getD, hi']; rfl
                               rw [h3, h2]
                           exact WX.loop_next (t + 1, rs3) ⟨rfl, rfl, rfl, rfl, rfl, rfl, rfl, trivial⟩ ⟨by show t + 1 ≤ n; omega, hH3.step hE, hA, hNw, hL, hb, hw⟩ (by show n - (t + 1) < n - t; omega))
                        | exact WX.loop_next (q + 1, rs4.set (k + q) ⟨ap, cp, pr⟩) ⟨rfl, rfl, by show _ = some (Value.slice oo (rs4.set _ _).length co); rw [List.length_set]; rfl, rfl, trivial⟩ ⟨by show q + 1 ≤ 3; omega, hFJ5, by show n1 ≤ _; omega, hO11, hI11, hb, hw⟩ (by show 3 - (q + 1) < 3 - q; omega)
                        | exact WX.loop_next (q + 1, rs4) ⟨rfl, rfl, rfl, rfl, trivial⟩ ⟨by show q + 1 ≤ 3; omega, hFJ.skip hbq, by have := hk9.size; show n1 ≤ _; omega, hO, fun r hr => (hI r hr).pure hk9, hb, hw⟩ (by show 3 - (q + 1) < 3 - q; omega)
                  ·
                    refine WL.nil (WX.then_normal (WC.cond_false rfl (WC.exit (WX.then_exit (WX.then_exit (WX.block_here (WX.then_normal (?_))))))))
                    refine WC.seq (WC.region (WL.assign rfl rfl (WL.nil (WX.then_normal (WC.seq (WC.seq (WC.region (?_))))))))
                    refine WL.assign rfl rfl (WL.nil (WX.then_normal (WC.block (?_))))
                    obtain rfl : i = k := by omega
                    obtain ⟨s16, hs16⟩ : ∃ s16, s16 = y ^^^ sumF i (fun j => mul (wtq q j) (fn (mx rs1) j t)) := ⟨_, rfl⟩
                    rw [← hs16]
                    have hbd := hG.bound
                    have hk6 := Chg.refl Nob w6
                    refine WC.loop (σ := Nat × (Option Addr × Nat)) (fun s => [(0, .slice ao rs.length c), (1, .slice ab bad.length cb), (7, vi n), (8, vi i), (9, .slice oo rs2.length co), (10, .slice al (li (lostL i bad)).length cl), (12, vi t), (13, .slice ar ms.length cr), (14, .slice asu ((frP i bad q).map rf).length cs), (15, vi q), (16, v8 s16), (18, .slice s.2.1 (((lostL i bad).take s.1).map (wtq q)).length s.2.2), (19, vi s.1)])
                      (fun s w' => s.1 ≤ (lostL i bad).length ∧ Row (fun b => w6.heap.size ≤ b) w' 5 eb s.2.1 s.2.2 (((lostL i bad).take s.1).map (wtq q)) ∧ Chg Nob w6 w') (fun s => (lostL i bad).length - s.1) (0, none, 0) ⟨rfl, rfl, rfl, rfl, rfl, rfl, rfl, rfl, rfl, rfl, rfl, rfl, rfl, trivial⟩ ⟨Nat.zero_le _, Row.nil _ _ _ _, hk6⟩ ?_
                    clear hk6
                    rintro ⟨j, a15, c15⟩ w7 ⟨hj, h15, hk6⟩
                    simp only at hj h15
                    dsimp only
                    have h7 : (((lostL i bad).take j).map (wtq q)).length ≤ 3 := by rw [List.length_map, List.length_take]; omega
                    refine WC.seq (WC.seq (WC.region (WL.move rfl rfl (WL.move rfl rfl (WL.len Try.underlying33 rfl rfl (?_))))))
                    refine WL.lss? rfl rfl rfl (fun h126 => ?_) (fun h126 => ?_)
                    ·
                      refine WL.nil (WX.then_normal (WC.cond_true rfl (WC.skip (WX.then_normal (WC.seq (WC.block (WC.region (?_))))))))
                      refine WL.move rfl rfl (WL.move rfl rfl (WL.move rfl rfl (WL.move rfl rfl (?_))))
                      obtain ⟨l, hl⟩ : ∃ l, (lostL i bad)[j]? = some l := ⟨_, List.getElem?_eq_getElem (by omega)⟩
                      have hlk := (lost_mem.1 (List.mem_of_getElem? hl)).1
                      refine WL.indexT (e := ei) Try.underlying33 Try.sizeOf3 ((hL.pure hk3).pure hk6) rfl rfl ⟨li_at hl, rfl⟩ rfl ?_
                      intro bb3 oo4 hcc3
                      refine WL.load Try.isAgg3 rfl (hcc3 0 _ rfl) rfl ?_
                      refine WL.call eg_36 rfl rfl (power_calls q l (by omega) (by omega) _) ?_
                      rintro v w8 ⟨rfl, k8⟩
                      have zs_k8 := k8.size
                      replace h15 := h15.pure k8
                      replace hk6 := hk6.pure k8
                      refine WL.build (e := eb) [wtq q l] Try.underlying23 Try.sizeOf5 Try.zeroValue5 rfl rfl rfl (by first | (simp [Value.cells]; done) | (simp [Value.cells] <;> rfl) | (simp [Value.cells, eb, ei, es, ebool, e32, e64]; done)) (by decide) rfl ?_
                      intro a_qb w_qb qb l_qb z_qb k_qb
                      have zs_k_qb := k_qb.size
                      replace h15 := h15.pure k_qb
                      replace hk6 := hk6.pure k_qb
                      refine WL.append (e := eb) (S := fun b => w6.heap.size ≤ b) info_5 rfl Try.underlying23 rfl rfl h15 (qb.rsl.src Try.underlying23) (by show ((((lostL i bad).take j).map (wtq q)).length + 1) * 1 ≤ _ ∧ (((lostL i bad).take j).map (wtq q)).length + 1 ≤ _; constructor <;> omega) (fun b hb => by have := hk6.size; omega) rfl ?_
                      intro a9 c9 w9 h19 g9 n9
                      replace hk6 := hk6.chg g9.chg (fun x hx h => by have := h.2; omega)
                      have e9 : ((lostL i bad).take j).map (wtq q) ++ [wtq q l] = ((lostL i bad).take (j + 1)).map (wtq q) := by rw [List.take_add_one, hl]; simp
                      rw [e9] at h19 ⊢
                      refine WL.assign rfl rfl (WL.nil (WX.block_normal (WX.then_normal (WC.region (WL.move rfl rfl (WL.add64 rfl rfl (by first | omega | (constructor <;> omega)) rfl (WL.assign rfl rfl (?_))))))))
                      refine WL.nil (?_)
                      first
                        | (have hle : lostL (min (i + 1) k) bad = lostL (min i k) bad := by
                             rcases Nat.lt_or_ge i k with h | h
                             ·
                               first
                                 | (rw [Nat.min_eq_left (by omega), Nat.min_eq_left (by omega), lost_next, if_neg hbi, List.append_nil]; done)
                                 | (exfalso; omega)
                             ·
                               rw [Nat.min_eq_right (by omega), Nat.min_eq_right (by omega)]
                           rw [← hle] at hL4 ⊢
                           refine WX.loop_next (i + 1, (o4, c4, gs ++ [g], rs1 ++ [⟨some ⟨g, 0, none⟩, _, _⟩], w4.heap.size), (al, cl)) ⟨rfl, rfl, rfl, rfl, by show _ = some (Value.slice o4 (rs1 ++ [_]).length c4); rfl, rfl, rfl, trivial⟩ ⟨by show i + 1 ≤ _; omega, hD4, hA4, Nat.le_refl _, by show w.heap.size ≤ w4.heap.size; omega, hL4, hc, hb, hw⟩ (by show rs.length - (i + 1) < rs.length - i; omega))
                        | exact WX.loop_next (i + 1, (o4, c4, gs ++ [g], rs1 ++ [⟨some ⟨g, 0, none⟩, _, _⟩], w4.heap.size), (a9, c9)) ⟨rfl, rfl, rfl, rfl, rfl, rfl, rfl, trivial⟩ ⟨by show i + 1 ≤ _; omega, hD4, hA9, by show w4.heap.size ≤ w9.heap.size; omega, by show w.heap.size ≤ w4.heap.size; omega, hL9, hc, hb, hw⟩ (by show rs.length - (i + 1) < rs.length - i; omega)
                        | exact WX.loop_next (j + 1, a9, c9) ⟨rfl, rfl, rfl, rfl, rfl, rfl, rfl, rfl, rfl, rfl, rfl, rfl, rfl, trivial⟩ ⟨by show j + 1 ≤ _; omega, h19, hk6⟩ (by show (lostL i bad).length - (j + 1) < (lostL i bad).length - j; omega)
                        | (have hz0 : fn (mx rs1) i t = 0 := by
                             obtain ⟨r, hr⟩ : ∃ r, rs1[i]? = some r := ⟨_, List.getElem?_eq_getElem (by omega)⟩
                             have hib : (i : Int) ∈ bad := by
                               rw [li, List.mem_map] at hiL
                               obtain ⟨i', h4, h5⟩ := hiL
                               obtain rfl : i' = i := by omega
                               exact (lost_mem.1 h4).2
                             rw [fn_at1 (mx_at hr), (hD.at' i r hr).2.2 hib, List.getD_eq_getElem?_getD, List.getElem?_replicate]
                             split <;> rfl
                           exact WX.loop_next (i + 1) ⟨rfl, rfl, rfl, rfl, rfl, rfl, rfl, rfl, rfl, rfl, by rw [sumF_step0 (by rw [hz0, mul_zero_r])]; rfl, rfl, trivial⟩ ⟨by omega, hG, hk3⟩ (by show k - (i + 1) < k - i; omega))
                        | exact WX.loop_next (i + 1) ⟨rfl, rfl, rfl, rfl, rfl, rfl, rfl, rfl, rfl, rfl, by rw [sumF, hzf, ← UInt8.xor_assoc]; rfl, rfl, trivial⟩ ⟨by omega, hG, hk3⟩ (by show k - (i + 1) < k - i; omega)
                        | (have hfe := frP_next k bad q
                           rw [if_pos hbq, List.append_nil] at hfe
                           rw [← hfe] at hfq hml hms hG ⊢
                           exact WX.loop_next (q + 1, (ar, cr, ms), (asu, cs)) ⟨rfl, rfl, rfl, rfl, rfl, rfl, rfl, rfl, rfl, rfl, trivial⟩ ⟨⟨by show q + 1 ≤ 3; omega, hfq⟩, ⟨hml, hms⟩, hG, hk3⟩ (by show 3 - (q + 1) < 3 - q; omega))
                        | (have hfe := frP_next i bad q
                           rw [if_neg hbq] at hfe
                           have hs17 : s16 = rf q := by rw [hs16, hrf, ← hyf]
                           have hmf : (frP i bad q).map rf ++ [s16] = (frP i bad (q + 1)).map rf := by rw [hfe, List.map_append, hs17]; rfl
                           rw [hmf] at hG5
                           refine WX.loop_next (q + 1, (a4, c4, ms ++ [⟨a15, c15, (lostL i bad).map (wtq q)⟩]), (a5, c5)) ⟨rfl, rfl, rfl, rfl, rfl, rfl, rfl, rfl, by show some (Value.slice a5 ((frP i bad q).map rf ++ [s16]).length c5) = some (Value.slice a5 ((frP i bad (q + 1)).map rf).length c5); rw [hmf], rfl, trivial⟩ ⟨⟨by show q + 1 ≤ 3; omega, ?_⟩, ⟨?_, fun a q' r' h1 h2 => ?_⟩, hG5, hk3⟩ (by show 3 - (q + 1) < 3 - q; omega)
                           ·
                             show (frP i bad (q + 1)).length ≤ _
                             rw [hfe, List.length_append]
                             show _ + 1 ≤ _
                             omega
                           ·
                             show (ms ++ [_]).length = (frP i bad (q + 1)).length
                             rw [hfe, List.length_append, List.length_append, hml]
                             rfl
                           ·
                             have h1' : (frP i bad (q + 1))[a]? = some q' := h1
                             have h2' : (ms ++ [⟨a15, c15, (lostL i bad).map (wtq q)⟩])[a]? = some r' := h2
                             rw [hfe] at h1'
                             rcases get_snoc h1' with h3 | ⟨h3, h4⟩ <;> rcases get_snoc h2' with h5 | ⟨h5, h6⟩
                             ·
                               exact hms a q' r' h3 h5
                             ·
                               have := (List.getElem?_eq_some_iff.1 h3).1
                               omega
                             ·
                               have := (List.getElem?_eq_some_iff.1 h5).1
                               omega
                             ·
                               rw [h6, h4])
                        | (have hA7 := hA6.upd (q := ⟨some ⟨gr, 0, none⟩, r3c, r3x⟩) (x' := r3x.set t u) hgr hr3 (by rw [List.length_set]) hk6 hrow
                           have hL7 := hL6.chg hk6 (fun x _ h1 h2 => h1.1.2.2 (by have h3 : x = gr := h2; rw [h3]; exact List.mem_of_getElem? hgr))
                           have hb7 := hb6.chg hk6 (fun x _ h1 h2 => by have h3 : x = gr := h2; omega)
                           have hw7 := hw6.chg hk6 (fun x hx h1 => by have h3 : x = gr := h1; omega)
                           have hH7 := hH3.set hiL hr3 (fun q _ => by omega) (show t < r3x.length by omega) u
                           have hV7 : ∀ (b' i' : Nat), b' < b + 1 → (lostL k bad)[b']? = some i' → fn (mx (rs3.set i ⟨some ⟨gr, 0, none⟩, r3c, r3x.set t u⟩)) i' t = xo.getD b' 0 := by
                             intro b' i' h1 h2
                             rw [mx_set, fn_setr2 (mx_at hr3) u (show t < r3x.length by omega)]
                             rcases Nat.lt_or_ge b' b with h3 | h3
                             ·
                               have := sorted_lt (lost_sorted k bad) h2 hi h3
                               rw [if_neg (by omega)]
                               exact hV b' i' h3 h2
                             ·
                               have h4 : b' = b := by omega
                               subst h4
                               rw [hi] at h2
                               injection h2 with h2
                               rw [if_pos ⟨h2.symm, rfl⟩, List.getD_eq_getElem?_getD, hu]
                               rfl
                           exact WX.loop_next (b + 1, rs3.set i ⟨some ⟨gr, 0, none⟩, r3c, r3x.set t u⟩) ⟨rfl, rfl, rfl, rfl, by show _ = some (Value.slice oo (rs3.set i _).length co); rw [List.length_set]; rfl, rfl, rfl, rfl, rfl, trivial⟩ ⟨by show b + 1 ≤ _; omega, hH7, hV7, by omega, hXr, hA7, hL7, hb7, hw7⟩ (by show (lostL k bad).length - (b + 1) < (lostL k bad).length - b; omega))
                        | (have hbl : b = (lostL k bad).length := by omega
                           have hE : ∀ q ∈ fromL k bad, sumF k (fun j => mul (wtq q j) (fn (mx rs3) j t)) = fn (mx rs3) (k + q) t := by
                             intro q hq
                             obtain ⟨a', ha'⟩ := List.getElem?_of_mem hq
                             have hqL : k + q ∉ lostL k bad := fun h => by have := (lost_mem.1 h).1; omega
                             refine heal_eq (bad := bad) (y0 := fun j => fn (mx rs1) j t) rfl (fun j hj => hH3.same hj t) (fun j hj => ?_) ?_
                             ·
                               obtain ⟨r, hr⟩ : ∃ r, rs1[j]? = some r := ⟨_, List.getElem?_eq_getElem (by have := (lost_mem.1 hj).1; omega)⟩
                               show fn (mx rs1) j t = 0
                               rw [fn_at1 (mx_at hr), (hD.at' j r hr).2.2 (lost_mem.1 hj).2, List.getD_eq_getElem?_getD, List.getElem?_replicate]
                               split <;> rfl
                             ·
                               rw [hH3.same hqL t]
                               have h1 := hxe a' q ha'
                               rw [List.getD_eq_getElem?_getD (l := (fromL k bad).map rf), List.getElem?_map, ha', hrf] at h1
                               refine Eq.trans (sumF_cong (fun b' hb' => ?_)) (h1.trans (UInt8.xor_comm _ _))
                               obtain ⟨i', hi'⟩ : ∃ i', (lostL k bad)[b']? = some i' := ⟨_, List.getElem?_eq_getElem hb'⟩
                               have h2 := hV b' i' (by omega) hi'
                               have h3 : (lostL k bad).getD b' 0 = i' := by rw [List.getD_eq_getElem?_getD, hi']; rfl
                               rw [h3, h2]
                           exact WX.loop_next (t + 1, rs3) ⟨rfl, rfl, rfl, rfl, rfl, rfl, rfl, trivial⟩ ⟨by show t + 1 ≤ n; omega, hH3.step hE, hA, hNw, hL, hb, hw⟩ (by show n - (t + 1) < n - t; omega))
                        | exact WX.loop_next (q + 1, rs4.set (k + q) ⟨ap, cp, pr⟩) ⟨rfl, rfl, by show _ = some (Value.slice oo (rs4.set _ _).length co); rw [List.length_set]; rfl, rfl, trivial⟩ ⟨by show q + 1 ≤ 3; omega, hFJ5, by show n1 ≤ _; omega, hO11, hI11, hb, hw⟩ (by show 3 - (q + 1) < 3 - q; omega)
                        | exact WX.loop_next (q + 1, rs4) ⟨rfl, rfl, rfl, rfl, trivial⟩ ⟨by show q + 1 ≤ 3; omega, hFJ.skip hbq, by have := hk9.size; show n1 ≤ _; omega, hO, fun r hr => (hI r hr).pure hk9, hb, hw⟩ (by show 3 - (q + 1) < 3 - q; omega)
                    ·
                      refine WL.nil (WX.then_normal (WC.cond_false rfl (WC.exit (WX.then_exit (WX.then_exit (WX.block_here (WX.then_normal (?_))))))))
                      refine WC.seq (WC.region (WL.move rfl rfl (WL.move rfl rfl (?_))))
                      have hjl : j = (lostL i bad).length := by omega
                      subst hjl
                      rw [List.take_length] at h15 ⊢
                      replace hG := hG.pure hk6
                      have zk36 := hk3.size
                      replace hk3 := hk3.trans hk6 (fun _ _ h => h)
                      have zk6 := hk6.size
                      have zk3 := hk3.size
                      have h15r : RSl (fun x => w3.heap.size ≤ x ∧ ¬ Eqb ar x ∧ ¬ Eqb asu x) w7 eb a15 c15 ((lostL i bad).map (wtq q)) := h15.rsl.mono (fun b h => by
                        have h2 : w6.heap.size ≤ b := h
                        exact ⟨by omega, fun e => by have := hbd b (.inl e); omega, fun e => by have := hbd b (.inr e); omega⟩)
                      refine WL.build (e := erow) [⟨a15, c15, (lostL i bad).map (wtq q)⟩] Try.underlying22 Try.sizeOf23 Try.zeroValue23 rfl rfl rfl (by first | (simp [Value.cells]; done) | (simp [Value.cells] <;> rfl) | (simp [Value.cells, eb, ei, es, ebool, e32, e64]; done)) (by decide) rfl ?_
                      intro a_qr w_qr qr l_qr z_qr k_qr
                      have zs_k_qr := k_qr.size
                      replace hG := hG.pure k_qr
                      replace hk3 := hk3.pure k_qr
                      replace h15r := h15r.pure k_qr
                      refine WL.append (e := erow) (S := fun b => w3.heap.size ≤ b) info_23 rfl Try.underlying22 rfl rfl (hG.outer.mono (fun b h => h.1)) (qr.rsl.src Try.underlying22) (by show (ms.length + 1) * 24 ≤ _ ∧ ms.length + 1 ≤ _; constructor <;> omega) (fun b hb => by omega) rfl ?_
                      intro a4 c4 w9 hO4 g4 n4
                      have hG4 := hG.snocR (r := ⟨a15, c15, (lostL i bad).map (wtq q)⟩) h15r hO4 g4
                      have k4 := g4.chg
                      replace hk3 := hk3.chg k4 (fun x hx h => by have := h.2; omega)
                      have zk4 := k4.size
                      refine WL.assign rfl rfl (WL.nil (WX.then_normal (WC.region (WL.move rfl rfl (WL.move rfl rfl (?_))))))
                      refine WL.build (e := eb) [s16] Try.underlying23 Try.sizeOf5 Try.zeroValue5 rfl rfl rfl (by first | (simp [Value.cells]; done) | (simp [Value.cells] <;> rfl) | (simp [Value.cells, eb, ei, es, ebool, e32, e64]; done)) (by decide) rfl ?_
                      intro a_qn w_qn qn l_qn z_qn k_qn
                      have zs_k_qn := k_qn.size
                      replace hk3 := hk3.pure k_qn
                      replace hG4 := hG4.pure k_qn
                      have hfl9 : ((frP i bad q).map rf).length ≤ 3 := by rw [List.length_map]; omega
                      refine WL.append (e := eb) (xs := (frP i bad q).map rf) (S := fun b => w3.heap.size ≤ b) info_5 rfl Try.underlying23 rfl rfl (hG4.nums.mono (fun b h => h.1)) (qn.rsl.src Try.underlying23) (by show (((frP i bad q).map rf).length + 1) * 1 ≤ _ ∧ ((frP i bad q).map rf).length + 1 ≤ _; constructor <;> omega) (fun b hb => by omega) rfl ?_
                      intro a5 c5 w10 hO5 g5 n5
                      have hG5 := hG4.snocN hO5 g5
                      have k5 := g5.chg
                      replace hk3 := hk3.chg k5 (fun x hx h => by have := h.2; omega)
                      refine WL.assign rfl rfl (WL.nil (WX.block_normal (WX.then_normal (WC.region (WL.move rfl rfl (WL.add64 rfl rfl (by first | omega | (constructor <;> omega)) rfl (WL.assign rfl rfl (?_))))))))
                      refine WL.nil (?_)
                      first
                        | (have hle : lostL (min (i + 1) k) bad = lostL (min i k) bad := by
                             rcases Nat.lt_or_ge i k with h | h
                             ·
                               first
                                 | (rw [Nat.min_eq_left (by omega), Nat.min_eq_left (by omega), lost_next, if_neg hbi, List.append_nil]; done)
                                 | (exfalso; omega)
                             ·
                               rw [Nat.min_eq_right (by omega), Nat.min_eq_right (by omega)]
                           rw [← hle] at hL4 ⊢
                           refine WX.loop_next (i + 1, (o4, c4, gs ++ [g], rs1 ++ [⟨some ⟨g, 0, none⟩, _, _⟩], w4.heap.size), (al, cl)) ⟨rfl, rfl, rfl, rfl, by show _ = some (Value.slice o4 (rs1 ++ [_]).length c4); rfl, rfl, rfl, trivial⟩ ⟨by show i + 1 ≤ _; omega, hD4, hA4, Nat.le_refl _, by show w.heap.size ≤ w4.heap.size; omega, hL4, hc, hb, hw⟩ (by show rs.length - (i + 1) < rs.length - i; omega))
                        | exact WX.loop_next (i + 1, (o4, c4, gs ++ [g], rs1 ++ [⟨some ⟨g, 0, none⟩, _, _⟩], w4.heap.size), (a9, c9)) ⟨rfl, rfl, rfl, rfl, rfl, rfl, rfl, trivial⟩ ⟨by show i + 1 ≤ _; omega, hD4, hA9, by show w4.heap.size ≤ w9.heap.size; omega, by show w.heap.size ≤ w4.heap.size; omega, hL9, hc, hb, hw⟩ (by show rs.length - (i + 1) < rs.length - i; omega)
                        | exact WX.loop_next (j + 1, a9, c9) ⟨rfl, rfl, rfl, rfl, rfl, rfl, rfl, rfl, rfl, rfl, rfl, rfl, rfl, trivial⟩ ⟨by show j + 1 ≤ _; omega, h19, hk6⟩ (by show (lostL i bad).length - (j + 1) < (lostL i bad).length - j; omega)
                        | (have hz0 : fn (mx rs1) i t = 0 := by
                             obtain ⟨r, hr⟩ : ∃ r, rs1[i]? = some r := ⟨_, List.getElem?_eq_getElem (by omega)⟩
                             have hib : (i : Int) ∈ bad := by
                               rw [li, List.mem_map] at hiL
                               obtain ⟨i', h4, h5⟩ := hiL
                               obtain rfl : i' = i := by omega
                               exact (lost_mem.1 h4).2
                             rw [fn_at1 (mx_at hr), (hD.at' i r hr).2.2 hib, List.getD_eq_getElem?_getD, List.getElem?_replicate]
                             split <;> rfl
                           exact WX.loop_next (i + 1) ⟨rfl, rfl, rfl, rfl, rfl, rfl, rfl, rfl, rfl, rfl, by rw [sumF_step0 (by rw [hz0, mul_zero_r])]; rfl, rfl, trivial⟩ ⟨by omega, hG, hk3⟩ (by show k - (i + 1) < k - i; omega))
                        | exact WX.loop_next (i + 1) ⟨rfl, rfl, rfl, rfl, rfl, rfl, rfl, rfl, rfl, rfl, by rw [sumF, hzf, ← UInt8.xor_assoc]; rfl, rfl, trivial⟩ ⟨by omega, hG, hk3⟩ (by show k - (i + 1) < k - i; omega)
                        | (have hfe := frP_next k bad q
                           rw [if_pos hbq, List.append_nil] at hfe
                           rw [← hfe] at hfq hml hms hG ⊢
                           exact WX.loop_next (q + 1, (ar, cr, ms), (asu, cs)) ⟨rfl, rfl, rfl, rfl, rfl, rfl, rfl, rfl, rfl, rfl, trivial⟩ ⟨⟨by show q + 1 ≤ 3; omega, hfq⟩, ⟨hml, hms⟩, hG, hk3⟩ (by show 3 - (q + 1) < 3 - q; omega))
                        | (have hfe := frP_next i bad q
                           rw [if_neg hbq] at hfe
                           have hs17 : s16 = rf q := by rw [hs16, hrf, ← hyf]
                           have hmf : (frP i bad q).map rf ++ [s16] = (frP i bad (q + 1)).map rf := by rw [hfe, List.map_append, hs17]; rfl
                           rw [hmf] at hG5
                           refine WX.loop_next (q + 1, (a4, c4, ms ++ [⟨a15, c15, (lostL i bad).map (wtq q)⟩]), (a5, c5)) ⟨rfl, rfl, rfl, rfl, rfl, rfl, rfl, rfl, by show some (Value.slice a5 ((frP i bad q).map rf ++ [s16]).length c5) = some (Value.slice a5 ((frP i bad (q + 1)).map rf).length c5); rw [hmf], rfl, trivial⟩ ⟨⟨by show q + 1 ≤ 3; omega, ?_⟩, ⟨?_, fun a q' r' h1 h2 => ?_⟩, hG5, hk3⟩ (by show 3 - (q + 1) < 3 - q; omega)
                           ·
                             show (frP i bad (q + 1)).length ≤ _
                             rw [hfe, List.length_append]
                             show _ + 1 ≤ _
                             omega
                           ·
                             show (ms ++ [_]).length = (frP i bad (q + 1)).length
                             rw [hfe, List.length_append, List.length_append, hml]
                             rfl
                           ·
                             have h1' : (frP i bad (q + 1))[a]? = some q' := h1
                             have h2' : (ms ++ [⟨a15, c15, (lostL i bad).map (wtq q)⟩])[a]? = some r' := h2
                             rw [hfe] at h1'
                             rcases get_snoc h1' with h3 | ⟨h3, h4⟩ <;> rcases get_snoc h2' with h5 | ⟨h5, h6⟩
                             ·
                               exact hms a q' r' h3 h5
                             ·
                               have := (List.getElem?_eq_some_iff.1 h3).1
                               omega
                             ·
                               have := (List.getElem?_eq_some_iff.1 h5).1
                               omega
                             ·
                               rw [h6, h4])
                        | (have hA7 := hA6.upd (q := ⟨some ⟨gr, 0, none⟩, r3c, r3x⟩) (x' := r3x.set t u) hgr hr3 (by rw [List.length_set]) hk6 hrow
                           have hL7 := hL6.chg hk6 (fun x _ h1 h2 => h1.1.2.2 (by have h3 : x = gr := h2; rw [h3]; exact List.mem_of_getElem? hgr))
                           have hb7 := hb6.chg hk6 (fun x _ h1 h2 => by have h3 : x = gr := h2; omega)
                           have hw7 := hw6.chg hk6 (fun x hx h1 => by have h3 : x = gr := h1; omega)
                           have hH7 := hH3.set hiL hr3 (fun q _ => by omega) (show t < r3x.length by omega) u
                           have hV7 : ∀ (b' i' : Nat), b' < b + 1 → (lostL k bad)[b']? = some i' → fn (mx (rs3.set i ⟨some ⟨gr, 0, none⟩, r3c, r3x.set t u⟩)) i' t = xo.getD b' 0 := by
                             intro b' i' h1 h2
                             rw [mx_set, fn_setr2 (mx_at hr3) u (show t < r3x.length by omega)]
                             rcases Nat.lt_or_ge b' b with h3 | h3
                             ·
                               have := sorted_lt (lost_sorted k bad) h2 hi h3
                               rw [if_neg (by omega)]
                               exact hV b' i' h3 h2
                             ·
                               have h4 : b' = b := by omega
                               subst h4
                               rw [hi] at h2
                               injection h2 with h2
                               rw [if_pos ⟨h2.symm, rfl⟩, List.getD_eq_getElem?_getD, hu]
                               rfl
                           exact WX.loop_next (b + 1, rs3.set i ⟨some ⟨gr, 0, none⟩, r3c, r3x.set t u⟩) ⟨rfl, rfl, rfl, rfl, by show _ = some (Value.slice oo (rs3.set i _).length co); rw [List.length_set]; rfl, rfl, rfl, rfl, rfl, trivial⟩ ⟨by show b + 1 ≤ _; omega, hH7, hV7, by omega, hXr, hA7, hL7, hb7, hw7⟩ (by show (lostL k bad).length - (b + 1) < (lostL k bad).length - b; omega))
                        | (have hbl : b = (lostL k bad).length := by omega
                           have hE : ∀ q ∈ fromL k bad, sumF k (fun j => mul (wtq q j) (fn (mx rs3) j t)) = fn (mx rs3) (k + q) t := by
                             intro q hq
                             obtain ⟨a', ha'⟩ := List.getElem?_of_mem hq
                             have hqL : k + q ∉ lostL k bad := fun h => by have := (lost_mem.1 h).1; omega
                             refine heal_eq (bad := bad) (y0 := fun j => fn (mx rs1) j t) rfl (fun j hj => hH3.same hj t) (fun j hj => ?_) ?_
                             ·
                               obtain ⟨r, hr⟩ : ∃ r, rs1[j]? = some r := ⟨_, List.getElem?_eq_getElem (by have := (lost_mem.1 hj).1; omega)⟩
                               show fn (mx rs1) j t = 0
                               rw [fn_at1 (mx_at hr), (hD.at' j r hr).2.2 (lost_mem.1 hj).2, List.getD_eq_getElem?_getD, List.getElem?_replicate]
                               split <;> rfl
                             ·
                               rw [hH3.same hqL t]
                               have h1 := hxe a' q ha'
                               rw [List.getD_eq_getElem?_getD (l := (fromL k bad).map rf), List.getElem?_map, ha', hrf] at h1
                               refine Eq.trans (sumF_cong (fun b' hb' => ?_)) (h1.trans (UInt8.xor_comm _ _))
                               obtain ⟨i', hi'⟩ : ∃ i', (lostL k bad)[b']? = some i' := ⟨_, List.getElem?_eq_getElem hb'⟩
                               have h2 := hV b' i' (by omega) hi'
                               have h3 : (lostL k bad).getD b' 0 = i' := by rw [List.getD_eq_getElem?_getD, hi']; rfl
                               rw [h3, h2]
                           exact WX.loop_next (t + 1, rs3) ⟨rfl, rfl, rfl, rfl, rfl, rfl, rfl, trivial⟩ ⟨by show t + 1 ≤ n; omega, hH3.step hE, hA, hNw, hL, hb, hw⟩ (by show n - (t + 1) < n - t; omega))
                        | exact WX.loop_next (q + 1, rs4.set (k + q) ⟨ap, cp, pr⟩) ⟨rfl, rfl, by show _ = some (Value.slice oo (rs4.set _ _).length co); rw [List.length_set]; rfl, rfl, trivial⟩ ⟨by show q + 1 ≤ 3; omega, hFJ5, by show n1 ≤ _; omega, hO11, hI11, hb, hw⟩ (by show 3 - (q + 1) < 3 - q; omega)
                        | exact WX.loop_next (q + 1, rs4) ⟨rfl, rfl, rfl, rfl, trivial⟩ ⟨by show q + 1 ≤ 3; omega, hFJ.skip hbq, by have := hk9.size; show n1 ≤ _; omega, hO, fun r hr => (hI r hr).pure hk9, hb, hw⟩ (by show 3 - (q + 1) < 3 - q; omega)
              ·
                refine WL.pickT rfl rfl rfl (WL.nil (WX.then_normal (WC.cond_false rfl (WC.exit (WX.then_exit (WX.then_exit (WX.block_here (?_))))))))
                first
                  | (have hfd := frP_done (k := k) (bad := bad) (q := q) hq3 hfq (by omega)
                     rw [hfd] at hml hms hG
                     exact WX.cutN ((ar, cr, ms), (asu, cs)) ⟨rfl, rfl, rfl, rfl, rfl, rfl, rfl, rfl, by show some (Value.slice asu ((frP k bad q).map rf).length cs) = _; rw [hfd], trivial⟩ ⟨⟨hml, hms⟩, hG, hk3⟩)
                  | (have htn : t = n := by omega
                     subst htn
                     exact WX.cutN rs2 ⟨rfl, rfl, rfl, rfl, rfl, trivial⟩ ⟨hH, hA, hNw, hb, hw⟩)
                  | (have hL0 : lostL k bad = [] := List.eq_nil_of_length_eq_zero (by omega)
                     have hF0 : fromL k bad = [] := List.eq_nil_of_length_eq_zero (by omega)
                     refine WX.cutN rs2 ⟨rfl, rfl, rfl, rfl, rfl, trivial⟩ ⟨⟨hH.len, hH.row, fun t' _ q hq => ?_⟩, hA, hNw, hb, hw⟩
                     rw [hF0] at hq
                     cases hq)
            ·
              refine WL.move rfl rfl (WL.pass rfl rfl rfl rfl (WL.pass rfl rfl rfl rfl (WL.pass rfl rfl rfl rfl (WL.pass rfl rfl rfl rfl (WL.pass rfl rfl rfl rfl (WL.pickF rfl rfl rfl (WL.nil (?_))))))))
              refine WX.then_normal (WC.cond_false rfl (WC.exit (WX.then_exit (WX.then_exit (WX.block_here (?_))))))
              first
                | (have hfd := frP_done (k := k) (bad := bad) (q := q) hq3 hfq (by omega)
                   rw [hfd] at hml hms hG
                   exact WX.cutN ((ar, cr, ms), (asu, cs)) ⟨rfl, rfl, rfl, rfl, rfl, rfl, rfl, rfl, by show some (Value.slice asu ((frP k bad q).map rf).length cs) = _; rw [hfd], trivial⟩ ⟨⟨hml, hms⟩, hG, hk3⟩)
                | (have htn : t = n := by omega
                   subst htn
                   exact WX.cutN rs2 ⟨rfl, rfl, rfl, rfl, rfl, trivial⟩ ⟨hH, hA, hNw, hb, hw⟩)
                | (have hL0 : lostL k bad = [] := List.eq_nil_of_length_eq_zero (by omega)
                   have hF0 : fromL k bad = [] := List.eq_nil_of_length_eq_zero (by omega)
                   refine WX.cutN rs2 ⟨rfl, rfl, rfl, rfl, rfl, trivial⟩ ⟨⟨hH.len, hH.row, fun t' _ q hq => ?_⟩, hA, hNw, hb, hw⟩
                   rw [hF0] at hq
                   cases hq)
          ·
            clear hk3
            rintro ⟨⟨ar, cr, ms⟩, asu, cs⟩ w4 ⟨⟨hml, hms⟩, hG, hk3⟩
            simp only at hml hms hG
            dsimp only
            refine WX.then_normal (WC.seq (WC.region (WL.move rfl rfl (WL.move rfl rfl (?_)))))
            have hrl2 : ((fromL k bad).map rf).length = (lostL k bad).length := by rw [List.length_map, hfl]
            refine WL.call eg_12 rfl rfl (rSolve_calls hG.rows (hG.nums.rsl.mono (S' := fun x => w3.heap.size ≤ x) (fun b h => h.1)) (by omega)) ?_
            rintro v w5 ⟨⟨ax, cx, xo, e, rfl, hS, hX⟩, k5⟩
            obtain ⟨rfl, hxl, hxe⟩ := sol_good hk1.2 hb3 (by omega) (by rw [mx_len, hml, hfl]) (fun a' q' r' h1 h2 => by
              obtain ⟨rr, h3, rfl⟩ : ∃ rr, ms[a']? = some rr ∧ rr.xs = r' := by
                rw [mx, List.getElem?_map] at h2
                cases h4 : ms[a']? with
                | none => rw [h4] at h2; cases h2
                | some rr => rw [h4] at h2; injection h2 with h2; exact ⟨rr, rfl, h2⟩
              exact hms a' q' rr h1 h3) hrl2 hS
            have zk3 := hk3.size
            replace hk3 := hk3.trans k5 (fun _ _ h => h)
            have zk5 := k5.size
            have hXr : RSl (fun x => N1 ≤ x) w5 eb ax cx xo := hX.rsl.mono (fun b h => by have h2 : w4.heap.size ≤ b := h; omega)
            replace hA := hA.pure hk3
            replace hL := hL.pure hk3
            replace hb := hb.pure hk3
            replace hw := hw.trans hk3 (fun _ _ h => h)
            have zk6 := hk3.size
            have hNw5 : N1 ≤ w5.heap.size := by omega
            clear hX hG hk3
            refine WL.move rfl rfl (WL.extract rfl rfl rfl (WL.extract rfl rfl rfl (WL.assign rfl rfl (WL.assign rfl rfl (WL.nil (WX.then_normal (WC.seq (?_))))))))
            refine WC.region (WL.assign rfl rfl (WL.nil (WX.then_normal (WC.block (?_)))))
            refine WC.loop (σ := Nat × List Rw) (fun s => [(0, .slice ao rs.length c), (1, .slice ab bad.length cb), (7, vi n), (8, vi k), (9, .slice oo s.2.length co), (10, .slice al (li (lostL k bad)).length cl), (12, vi t), (20, .slice ax xo.length cx), (22, vi s.1)])
              (fun s w' => s.1 ≤ (lostL k bad).length ∧ HealI rs1 s.2 k (lostL k bad) (fromL k bad) t ∧ (∀ (b' i' : Nat), b' < s.1 → (lostL k bad)[b']? = some i' → fn (mx s.2) i' t = xo.getD b' 0) ∧ N1 ≤ w'.heap.size ∧ RSl (fun x => N1 ≤ x) w' eb ax cx xo ∧ AR w.heap.size w.heap.size n1 w' 23 5 oo co gs s.2 ∧ RSl (fun b => (w.heap.size ≤ b ∧ ¬ Eqb oo b ∧ b ∉ gs) ∧ b < N1) w' ei al cl (li (lostL k bad)) ∧ RSl (· < w.heap.size) w' ei ab cb bad ∧ Chg Nob w w') (fun s => (lostL k bad).length - s.1) (0, rs2) ⟨rfl, rfl, rfl, rfl, rfl, rfl, rfl, rfl, rfl, trivial⟩ ⟨Nat.zero_le _, hH, fun b' i' h => absurd h (Nat.not_lt_zero _), hNw5, hXr, hA, hL, hb, hw⟩ ?_
            clear hXr hA hL hb hw hNw5 hNw
            rintro ⟨b, rs3⟩ w6 ⟨hbL, hH3, hV, hNw, hXr, hA, hL, hb, hw⟩
            simp only at hbL hH3 hV hA
            dsimp only
            have hH3l := hH3.len
            refine WC.seq (WC.seq (WC.region (WL.move rfl rfl (WL.move rfl rfl (WL.len Try.underlying33 rfl rfl (?_))))))
            refine WL.lss? rfl rfl rfl (fun h155 => ?_) (fun h155 => ?_)
            ·
              refine WL.nil (WX.then_normal (WC.cond_true rfl (WC.skip (WX.then_normal (WC.seq (WC.block (?_)))))))
              obtain ⟨i, hi⟩ : ∃ i, (lostL k bad)[b]? = some i := ⟨_, List.getElem?_eq_getElem (by omega)⟩
              have hiL := List.mem_of_getElem? hi
              have hik := (lost_mem.1 hiL).1
              obtain ⟨⟨r3a, r3c, r3x⟩, hr3⟩ : ∃ r, rs3[i]? = some r := ⟨_, List.getElem?_eq_getElem (by omega)⟩
              obtain ⟨r0, hr0, hao0, hcap0, hlen0, hxs0⟩ := hH3.back hr3
              have hx3 : r3x.length = n := by rw [← (hD.at' _ r0 hr0).1]; exact hlen0
              obtain ⟨gr, hgr, hgr3, hrow, hgne⟩ := hA.at hr3
              have hgr3' : r3a = some ⟨gr, 0, none⟩ := hgr3
              subst hgr3'
              obtain ⟨u, hu⟩ : ∃ u, xo[b]? = some u := ⟨_, List.getElem?_eq_getElem (by omega)⟩
              obtain ⟨bx, ox, hbx⟩ := hXr.place hu
              obtain ⟨bl, ol, hbl⟩ := hL.place (li_at hi)
              obtain ⟨go, hgo⟩ := hA.outer.place0 (j := i) (by omega)
              have hgrl := hA.lt (List.mem_of_getElem? hgr)
              have hOo : RSl (fun x => x ≠ gr) w6 erow oo co rs3 := ⟨fun _ a ea e => hgne ⟨a, ea, e.symm⟩, hA.outer.rsl.cap, hA.outer.rsl.sl⟩
              have hk6 := Chg.refl (fun x => x = gr) w6
              have hA6 := hA
              have hL6 := hL
              have hb6 := hb
              have hw6 := hw
              have hLr := hL.mono (S' := fun x => x ≠ gr) (fun x h e => h.1.2.2 (by rw [e]; exact List.mem_of_getElem? hgr))
              replace hrow : Row (fun b => b = gr) _ 5 eb (some ⟨gr, 0, none⟩) r3c r3x := hrow
              refine WC.draw (fun x => x = gr) [0, 1, 2, 3, 4, 5, 6, 7, 8, 9, 10, 11, 12] [13] mixed rfl rfl (fun wd_1 kd_1 zd_1 => ?_)
              have zs_kd_1 := kd_1.size
              replace hXr := hXr.pure kd_1
              replace hOo := hOo.pure kd_1
              replace hLr := hLr.pure kd_1
              replace hrow := hrow.pure kd_1
              replace hk6 := hk6.pure kd_1
              apply DQ.step (E' := [(9, _)])
              case ho => rfl
              case hs => exact ⟨rfl, trivial⟩
              case hk => rfl
              case h1 =>
                intro wq_3 kq_3
                refine WL.move rfl rfl (?_)
                refine WL.nil ?_
                exact WX.one ⟨rfl, by first | exact Chg.refl _ _ | assumption⟩
              apply DQ.step (E' := [(10, _)])
              case ho => rfl
              case hs => exact ⟨rfl, trivial⟩
              case hk => rfl
              case h1 =>
                intro wq_4 kq_4
                refine WL.move rfl rfl (?_)
                refine WL.nil ?_
                exact WX.one ⟨rfl, by first | exact Chg.refl _ _ | assumption⟩
              apply DQ.step (E' := [(22, _)])
              case ho => rfl
              case hs => exact ⟨rfl, trivial⟩
              case hk => rfl
              case h1 =>
                intro wq_5 kq_5
                refine WL.move rfl rfl (?_)
                refine WL.nil ?_
                exact WX.one ⟨rfl, by first | exact Chg.refl _ _ | assumption⟩
              apply DQ.step (E' := [(159, _), (160, _)])
              case ho => rfl
              case hs => exact ⟨rfl, rfl, trivial⟩
              case hk => rfl
              case h1 =>
                intro wq_6 kq_6
                have zs_kq_6 := kq_6.size
                replace hXr := hXr.chg kq_6 (by first | (intro x h1 h2; exact h2) | (intro x h1 h2; have h3 : _ = _ := h2; exfalso; omega) | (intro b h1 h2 h3; have h4 : _ = _ := h3; (try dsimp only at h2); exfalso; omega) | (intro h1; have h2 : _ = _ := h1; exfalso; omega) | (intro h1; have h2 : _ ≤ _ := h1; exfalso; omega) | (intros; exfalso; (try dsimp only at *); omega) | (intro b h1 h2 h3; exfalso; have h4 := h3.2; (try dsimp only at *); omega) | (intro h1; exfalso; have h4 := h1.2; (try dsimp only at *); omega))
                replace hOo := hOo.chg kq_6 (by first | (intro x h1 h2; exact h2) | (intro x h1 h2; have h3 : _ = _ := h2; exfalso; omega) | (intro b h1 h2 h3; have h4 : _ = _ := h3; (try dsimp only at h2); exfalso; omega) | (intro h1; have h2 : _ = _ := h1; exfalso; omega) | (intro h1; have h2 : _ ≤ _ := h1; exfalso; omega) | (intros; exfalso; (try dsimp only at *); omega) | (intro b h1 h2 h3; exfalso; have h4 := h3.2; (try dsimp only at *); omega) | (intro h1; exfalso; have h4 := h1.2; (try dsimp only at *); omega))
                replace hLr := hLr.chg kq_6 (by first | (intro x h1 h2; exact h2) | (intro x h1 h2; have h3 : _ = _ := h2; exfalso; omega) | (intro b h1 h2 h3; have h4 : _ = _ := h3; (try dsimp only at h2); exfalso; omega) | (intro h1; have h2 : _ = _ := h1; exfalso; omega) | (intro h1; have h2 : _ ≤ _ := h1; exfalso; omega) | (intros; exfalso; (try dsimp only at *); omega) | (intro b h1 h2 h3; exfalso; have h4 := h3.2; (try dsimp only at *); omega) | (intro h1; exfalso; have h4 := h1.2; (try dsimp only at *); omega))
                have hLq := hLr
                rw [hbl] at hLq
                refine WL.indexC (e := ei) hLq Try.underlying33 Try.sizeOf3 (by show some (Value.slice al _ _) = _; rw [hbl]) rfl ⟨li_at hi, rfl⟩ rfl ?_
                refine WL.nil ?_
                exact WX.one ⟨rfl, by first | exact Chg.refl _ _ | assumption⟩
              apply DQ.step (E' := [(161, _)])
              case ho => rfl
              case hs => exact ⟨rfl, trivial⟩
              case hk => rfl
              case h1 =>
                intro wq_7 kq_7
                have zs_kq_7 := kq_7.size
                replace hXr := hXr.chg kq_7 (by first | (intro x h1 h2; exact h2) | (intro x h1 h2; have h3 : _ = _ := h2; exfalso; omega) | (intro b h1 h2 h3; have h4 : _ = _ := h3; (try dsimp only at h2); exfalso; omega) | (intro h1; have h2 : _ = _ := h1; exfalso; omega) | (intro h1; have h2 : _ ≤ _ := h1; exfalso; omega) | (intros; exfalso; (try dsimp only at *); omega) | (intro b h1 h2 h3; exfalso; have h4 := h3.2; (try dsimp only at *); omega) | (intro h1; exfalso; have h4 := h1.2; (try dsimp only at *); omega))
                replace hOo := hOo.chg kq_7 (by first | (intro x h1 h2; exact h2) | (intro x h1 h2; have h3 : _ = _ := h2; exfalso; omega) | (intro b h1 h2 h3; have h4 : _ = _ := h3; (try dsimp only at h2); exfalso; omega) | (intro h1; have h2 : _ = _ := h1; exfalso; omega) | (intro h1; have h2 : _ ≤ _ := h1; exfalso; omega) | (intros; exfalso; (try dsimp only at *); omega) | (intro b h1 h2 h3; exfalso; have h4 := h3.2; (try dsimp only at *); omega) | (intro h1; exfalso; have h4 := h1.2; (try dsimp only at *); omega))
                replace hLr := hLr.chg kq_7 (by first | (intro x h1 h2; exact h2) | (intro x h1 h2; have h3 : _ = _ := h2; exfalso; omega) | (intro b h1 h2 h3; have h4 : _ = _ := h3; (try dsimp only at h2); exfalso; omega) | (intro h1; have h2 : _ = _ := h1; exfalso; omega) | (intro h1; have h2 : _ ≤ _ := h1; exfalso; omega) | (intros; exfalso; (try dsimp only at *); omega) | (intro b h1 h2 h3; exfalso; have h4 := h3.2; (try dsimp only at *); omega) | (intro h1; exfalso; have h4 := h1.2; (try dsimp only at *); omega))
                have hLq := hLr
                rw [hbl] at hLq
                refine WL.load Try.isAgg3 rfl ((hLq.cellsAt (li_at hi)) 0 _ rfl) rfl ?_
                refine WL.nil ?_
                exact WX.one ⟨rfl, by first | exact Chg.refl _ _ | assumption⟩
              apply DQ.step (E' := [(158, _), (162, _)])
              case ho => rfl
              case hs => exact ⟨rfl, rfl, trivial⟩
              case hk => rfl
              case h1 =>
                intro wq_8 kq_8
                have zs_kq_8 := kq_8.size
                replace hXr := hXr.chg kq_8 (by first | (intro x h1 h2; exact h2) | (intro x h1 h2; have h3 : _ = _ := h2; exfalso; omega) | (intro b h1 h2 h3; have h4 : _ = _ := h3; (try dsimp only at h2); exfalso; omega) | (intro h1; have h2 : _ = _ := h1; exfalso; omega) | (intro h1; have h2 : _ ≤ _ := h1; exfalso; omega) | (intros; exfalso; (try dsimp only at *); omega) | (intro b h1 h2 h3; exfalso; have h4 := h3.2; (try dsimp only at *); omega) | (intro h1; exfalso; have h4 := h1.2; (try dsimp only at *); omega))
                replace hOo := hOo.chg kq_8 (by first | (intro x h1 h2; exact h2) | (intro x h1 h2; have h3 : _ = _ := h2; exfalso; omega) | (intro b h1 h2 h3; have h4 : _ = _ := h3; (try dsimp only at h2); exfalso; omega) | (intro h1; have h2 : _ = _ := h1; exfalso; omega) | (intro h1; have h2 : _ ≤ _ := h1; exfalso; omega) | (intros; exfalso; (try dsimp only at *); omega) | (intro b h1 h2 h3; exfalso; have h4 := h3.2; (try dsimp only at *); omega) | (intro h1; exfalso; have h4 := h1.2; (try dsimp only at *); omega))
                replace hLr := hLr.chg kq_8 (by first | (intro x h1 h2; exact h2) | (intro x h1 h2; have h3 : _ = _ := h2; exfalso; omega) | (intro b h1 h2 h3; have h4 : _ = _ := h3; (try dsimp only at h2); exfalso; omega) | (intro h1; have h2 : _ = _ := h1; exfalso; omega) | (intro h1; have h2 : _ ≤ _ := h1; exfalso; omega) | (intros; exfalso; (try dsimp only at *); omega) | (intro b h1 h2 h3; exfalso; have h4 := h3.2; (try dsimp only at *); omega) | (intro h1; exfalso; have h4 := h1.2; (try dsimp only at *); omega))
                have hOq := hOo
                rw [hgo] at hOq
                refine WL.indexC (e := erow) hOq Try.underlying22 Try.sizeOf23 (by show some (Value.slice oo _ _) = _; rw [hgo]) rfl ⟨hr3, rfl⟩ rfl ?_
                refine WL.nil ?_
                exact WX.one ⟨rfl, by first | exact Chg.refl _ _ | assumption⟩
              apply DQ.step (E' := [(163, _)])
              case ho => rfl
              case hs => exact ⟨rfl, trivial⟩
              case hk => rfl
              case h1 =>
                intro wq_9 kq_9
                have zs_kq_9 := kq_9.size
                replace hXr := hXr.chg kq_9 (by first | (intro x h1 h2; exact h2) | (intro x h1 h2; have h3 : _ = _ := h2; exfalso; omega) | (intro b h1 h2 h3; have h4 : _ = _ := h3; (try dsimp only at h2); exfalso; omega) | (intro h1; have h2 : _ = _ := h1; exfalso; omega) | (intro h1; have h2 : _ ≤ _ := h1; exfalso; omega) | (intros; exfalso; (try dsimp only at *); omega) | (intro b h1 h2 h3; exfalso; have h4 := h3.2; (try dsimp only at *); omega) | (intro h1; exfalso; have h4 := h1.2; (try dsimp only at *); omega))
                replace hOo := hOo.chg kq_9 (by first | (intro x h1 h2; exact h2) | (intro x h1 h2; have h3 : _ = _ := h2; exfalso; omega) | (intro b h1 h2 h3; have h4 : _ = _ := h3; (try dsimp only at h2); exfalso; omega) | (intro h1; have h2 : _ = _ := h1; exfalso; omega) | (intro h1; have h2 : _ ≤ _ := h1; exfalso; omega) | (intros; exfalso; (try dsimp only at *); omega) | (intro b h1 h2 h3; exfalso; have h4 := h3.2; (try dsimp only at *); omega) | (intro h1; exfalso; have h4 := h1.2; (try dsimp only at *); omega))
                replace hLr := hLr.chg kq_9 (by first | (intro x h1 h2; exact h2) | (intro x h1 h2; have h3 : _ = _ := h2; exfalso; omega) | (intro b h1 h2 h3; have h4 : _ = _ := h3; (try dsimp only at h2); exfalso; omega) | (intro h1; have h2 : _ = _ := h1; exfalso; omega) | (intro h1; have h2 : _ ≤ _ := h1; exfalso; omega) | (intros; exfalso; (try dsimp only at *); omega) | (intro b h1 h2 h3; exfalso; have h4 := h3.2; (try dsimp only at *); omega) | (intro h1; exfalso; have h4 := h1.2; (try dsimp only at *); omega))
                have hOq := hOo
                rw [hgo] at hOq
                refine WL.load Try.isAgg23 rfl ((hOq.cellsAt hr3) 0 _ rfl) rfl ?_
                refine WL.nil ?_
                exact WX.one ⟨rfl, by first | exact Chg.refl _ _ | assumption⟩
              apply DQ.step (E' := [(12, _)])
              case ho => rfl
              case hs => exact ⟨rfl, trivial⟩
              case hk => rfl
              case h1 =>
                intro wq_10 kq_10
                refine WL.move rfl rfl (?_)
                refine WL.nil ?_
                exact WX.one ⟨rfl, by first | exact Chg.refl _ _ | assumption⟩
              apply DQ.step (E' := [(20, _)])
              case ho => rfl
              case hs => exact ⟨rfl, trivial⟩
              case hk => rfl
              case h1 =>
                intro wq_11 kq_11
                refine WL.move rfl rfl (?_)
                refine WL.nil ?_
                exact WX.one ⟨rfl, by first | exact Chg.refl _ _ | assumption⟩
              apply DQ.step (E' := [(22, _)])
              case ho => rfl
              case hs => exact ⟨rfl, trivial⟩
              case hk => rfl
              case h1 =>
                intro wq_12 kq_12
                refine WL.move rfl rfl (?_)
                refine WL.nil ?_
                exact WX.one ⟨rfl, by first | exact Chg.refl _ _ | assumption⟩
              apply DQ.step (E' := [(166, _), (167, _)])
              case ho => rfl
              case hs => exact ⟨rfl, rfl, trivial⟩
              case hk => rfl
              case h1 =>
                intro wq_13 kq_13
                have zs_kq_13 := kq_13.size
                replace hXr := hXr.chg kq_13 (by first | (intro x h1 h2; exact h2) | (intro x h1 h2; have h3 : _ = _ := h2; exfalso; omega) | (intro b h1 h2 h3; have h4 : _ = _ := h3; (try dsimp only at h2); exfalso; omega) | (intro h1; have h2 : _ = _ := h1; exfalso; omega) | (intro h1; have h2 : _ ≤ _ := h1; exfalso; omega) | (intros; exfalso; (try dsimp only at *); omega) | (intro b h1 h2 h3; exfalso; have h4 := h3.2; (try dsimp only at *); omega) | (intro h1; exfalso; have h4 := h1.2; (try dsimp only at *); omega))
                replace hOo := hOo.chg kq_13 (by first | (intro x h1 h2; exact h2) | (intro x h1 h2; have h3 : _ = _ := h2; exfalso; omega) | (intro b h1 h2 h3; have h4 : _ = _ := h3; (try dsimp only at h2); exfalso; omega) | (intro h1; have h2 : _ = _ := h1; exfalso; omega) | (intro h1; have h2 : _ ≤ _ := h1; exfalso; omega) | (intros; exfalso; (try dsimp only at *); omega) | (intro b h1 h2 h3; exfalso; have h4 := h3.2; (try dsimp only at *); omega) | (intro h1; exfalso; have h4 := h1.2; (try dsimp only at *); omega))
                replace hLr := hLr.chg kq_13 (by first | (intro x h1 h2; exact h2) | (intro x h1 h2; have h3 : _ = _ := h2; exfalso; omega) | (intro b h1 h2 h3; have h4 : _ = _ := h3; (try dsimp only at h2); exfalso; omega) | (intro h1; have h2 : _ = _ := h1; exfalso; omega) | (intro h1; have h2 : _ ≤ _ := h1; exfalso; omega) | (intros; exfalso; (try dsimp only at *); omega) | (intro b h1 h2 h3; exfalso; have h4 := h3.2; (try dsimp only at *); omega) | (intro h1; exfalso; have h4 := h1.2; (try dsimp only at *); omega))
                have hXq := hXr
                rw [hbx] at hXq
                refine WL.indexC (e := eb) hXq Try.underlying23 Try.sizeOf5 (by show some (Value.slice ax _ _) = _; rw [hbx]) rfl ⟨hu, rfl⟩ rfl ?_
                refine WL.nil ?_
                exact WX.one ⟨rfl, by first | exact Chg.refl _ _ | assumption⟩
              apply DQ.step (E' := [(168, _)])
              case ho => rfl
              case hs => exact ⟨rfl, trivial⟩
              case hk => rfl
              case h1 =>
                intro wq_14 kq_14
                have zs_kq_14 := kq_14.size
                replace hXr := hXr.chg kq_14 (by first | (intro x h1 h2; exact h2) | (intro x h1 h2; have h3 : _ = _ := h2; exfalso; omega) | (intro b h1 h2 h3; have h4 : _ = _ := h3; (try dsimp only at h2); exfalso; omega) | (intro h1; have h2 : _ = _ := h1; exfalso; omega) | (intro h1; have h2 : _ ≤ _ := h1; exfalso; omega) | (intros; exfalso; (try dsimp only at *); omega) | (intro b h1 h2 h3; exfalso; have h4 := h3.2; (try dsimp only at *); omega) | (intro h1; exfalso; have h4 := h1.2; (try dsimp only at *); omega))
                replace hOo := hOo.chg kq_14 (by first | (intro x h1 h2; exact h2) | (intro x h1 h2; have h3 : _ = _ := h2; exfalso; omega) | (intro b h1 h2 h3; have h4 : _ = _ := h3; (try dsimp only at h2); exfalso; omega) | (intro h1; have h2 : _ = _ := h1; exfalso; omega) | (intro h1; have h2 : _ ≤ _ := h1; exfalso; omega) | (intros; exfalso; (try dsimp only at *); omega) | (intro b h1 h2 h3; exfalso; have h4 := h3.2; (try dsimp only at *); omega) | (intro h1; exfalso; have h4 := h1.2; (try dsimp only at *); omega))
                replace hLr := hLr.chg kq_14 (by first | (intro x h1 h2; exact h2) | (intro x h1 h2; have h3 : _ = _ := h2; exfalso; omega) | (intro b h1 h2 h3; have h4 : _ = _ := h3; (try dsimp only at h2); exfalso; omega) | (intro h1; have h2 : _ = _ := h1; exfalso; omega) | (intro h1; have h2 : _ ≤ _ := h1; exfalso; omega) | (intros; exfalso; (try dsimp only at *); omega) | (intro b h1 h2 h3; exfalso; have h4 := h3.2; (try dsimp only at *); omega) | (intro h1; exfalso; have h4 := h1.2; (try dsimp only at *); omega))
                have hXq := hXr
                rw [hbx] at hXq
                refine WL.load Try.isAgg5 rfl ((hXq.cellsAt hu) 0 _ rfl) rfl ?_
                refine WL.nil ?_
                exact WX.one ⟨rfl, by first | exact Chg.refl _ _ | assumption⟩
              apply DQ.step (E' := [(164, _), (165, _)])
              case ho => rfl
              case hs => exact ⟨rfl, rfl, trivial⟩
              case hk => rfl
              case h1 =>
                intro wq_15 kq_15
                have zs_kq_15 := kq_15.size
                replace hXr := hXr.chg kq_15 (by first | (intro x h1 h2; exact h2) | (intro x h1 h2; have h3 : _ = _ := h2; exfalso; omega) | (intro b h1 h2 h3; have h4 : _ = _ := h3; (try dsimp only at h2); exfalso; omega) | (intro h1; have h2 : _ = _ := h1; exfalso; omega) | (intro h1; have h2 : _ ≤ _ := h1; exfalso; omega) | (intros; exfalso; (try dsimp only at *); omega) | (intro b h1 h2 h3; exfalso; have h4 := h3.2; (try dsimp only at *); omega) | (intro h1; exfalso; have h4 := h1.2; (try dsimp only at *); omega))
                replace hOo := hOo.chg kq_15 (by first | (intro x h1 h2; exact h2) | (intro x h1 h2; have h3 : _ = _ := h2; exfalso; omega) | (intro b h1 h2 h3; have h4 : _ = _ := h3; (try dsimp only at h2); exfalso; omega) | (intro h1; have h2 : _ = _ := h1; exfalso; omega) | (intro h1; have h2 : _ ≤ _ := h1; exfalso; omega) | (intros; exfalso; (try dsimp only at *); omega) | (intro b h1 h2 h3; exfalso; have h4 := h3.2; (try dsimp only at *); omega) | (intro h1; exfalso; have h4 := h1.2; (try dsimp only at *); omega))
                replace hLr := hLr.chg kq_15 (by first | (intro x h1 h2; exact h2) | (intro x h1 h2; have h3 : _ = _ := h2; exfalso; omega) | (intro b h1 h2 h3; have h4 : _ = _ := h3; (try dsimp only at h2); exfalso; omega) | (intro h1; have h2 : _ = _ := h1; exfalso; omega) | (intro h1; have h2 : _ ≤ _ := h1; exfalso; omega) | (intros; exfalso; (try dsimp only at *); omega) | (intro b h1 h2 h3; exfalso; have h4 := h3.2; (try dsimp only at *); omega) | (intro h1; exfalso; have h4 := h1.2; (try dsimp only at *); omega))
                refine WL.index (sz := 1) (j := t) Try.underlying23 Try.sizeOf5 rfl rfl rfl (by show t < r3x.length; omega) rfl ?_
                refine WL.nil ?_
                exact WX.one ⟨rfl, by first | exact Chg.refl _ _ | assumption⟩
              refine DQ.done (fun hd_2 => ?_)
              refine DL.step [(170, _), (169, _)] rfl ⟨rfl, rfl, trivial⟩ rfl (fun wq_16 kq_16 => ?_)
              have zs_kq_16 := kq_16.size
              replace hXr := hXr.pure kq_16
              replace hOo := hOo.pure kq_16
              replace hLr := hLr.pure kq_16
              replace hrow := hrow.pure kq_16
              replace hk6 := hk6.pure kq_16
              replace hd_2 := hd_2.pure kq_16
              refine WL.storeRow (z := u) (t) Try.sizeOf5 hrow rfl rfl rfl (by first | (simp; done) | (show 0 + _ * 1 = _; omega)) (by omega) rfl ?_
              intro w_17 zs_17 nr_17 k_17
              have zs_k_17 := k_17.size
              replace hXr := hXr.chg k_17 (by first | (intro x h1 h2; exact h2) | (intro x h1 h2; have h3 : _ = _ := h2; exfalso; omega) | (intro b h1 h2 h3; have h4 : _ = _ := h3; (try dsimp only at h2); exfalso; omega) | (intro h1; have h2 : _ = _ := h1; exfalso; omega) | (intro h1; have h2 : _ ≤ _ := h1; exfalso; omega) | (intros; exfalso; (try dsimp only at *); omega) | (intro b h1 h2 h3; exfalso; have h4 := h3.2; (try dsimp only at *); omega) | (intro h1; exfalso; have h4 := h1.2; (try dsimp only at *); omega))
              replace hOo := hOo.chg k_17 (by first | (intro x h1 h2; exact h2) | (intro x h1 h2; have h3 : _ = _ := h2; exfalso; omega) | (intro b h1 h2 h3; have h4 : _ = _ := h3; (try dsimp only at h2); exfalso; omega) | (intro h1; have h2 : _ = _ := h1; exfalso; omega) | (intro h1; have h2 : _ ≤ _ := h1; exfalso; omega) | (intros; exfalso; (try dsimp only at *); omega) | (intro b h1 h2 h3; exfalso; have h4 := h3.2; (try dsimp only at *); omega) | (intro h1; exfalso; have h4 := h1.2; (try dsimp only at *); omega))
              replace hLr := hLr.chg k_17 (by first | (intro x h1 h2; exact h2) | (intro x h1 h2; have h3 : _ = _ := h2; exfalso; omega) | (intro b h1 h2 h3; have h4 : _ = _ := h3; (try dsimp only at h2); exfalso; omega) | (intro h1; have h2 : _ = _ := h1; exfalso; omega) | (intro h1; have h2 : _ ≤ _ := h1; exfalso; omega) | (intros; exfalso; (try dsimp only at *); omega) | (intro b h1 h2 h3; exfalso; have h4 := h3.2; (try dsimp only at *); omega) | (intro h1; exfalso; have h4 := h1.2; (try dsimp only at *); omega))
              replace hk6 := hk6.chg k_17 (by first | (intro x h1 h2; exact h2) | (intro x h1 h2; have h3 : _ = _ := h2; exfalso; omega) | (intro b h1 h2 h3; have h4 : _ = _ := h3; (try dsimp only at h2); exfalso; omega) | (intro h1; have h2 : _ = _ := h1; exfalso; omega) | (intro h1; have h2 : _ ≤ _ := h1; exfalso; omega) | (intros; exfalso; (try dsimp only at *); omega) | (intro b h1 h2 h3; exfalso; have h4 := h3.2; (try dsimp only at *); omega) | (intro h1; exfalso; have h4 := h1.2; (try dsimp only at *); omega))
              replace hd_2 := hd_2.chg k_17 (by first | (intro x h1 h2; exact h2) | (intro x h1 h2; have h3 : _ = _ := h2; exfalso; omega) | (intro b h1 h2 h3; have h4 : _ = _ := h3; (try dsimp only at h2); exfalso; omega) | (intro h1; have h2 : _ = _ := h1; exfalso; omega) | (intro h1; have h2 : _ ≤ _ := h1; exfalso; omega) | (intros; exfalso; (try dsimp only at *); omega) | (intro b h1 h2 h3; exfalso; have h4 := h3.2; (try dsimp only at *); omega) | (intro h1; exfalso; have h4 := h1.2; (try dsimp only at *); omega))
              replace hrow := nr_17
              refine WL.nil ?_
              refine WX.one0 (v := undef) ⟨hd_2, ?_⟩
              refine DL.done (fun we_18 ke_18 => ?_)
              have zs_ke_18 := ke_18.size
              replace hXr := hXr.pure ke_18
              replace hOo := hOo.pure ke_18
              replace hLr := hLr.pure ke_18
              replace hrow := hrow.pure ke_18
              replace hk6 := hk6.pure ke_18
              replace hd_2 := hd_2.pure ke_18
              refine WX.block_normal (WX.then_normal (WC.region (WL.move rfl rfl (WL.add64 rfl rfl (by first | omega | (constructor <;> omega)) rfl (WL.assign rfl rfl (WL.nil (?_)))))))
              first
                | (have hle : lostL (min (i + 1) k) bad = lostL (min i k) bad := by
                     rcases Nat.lt_or_ge i k with h | h
                     ·
                       first
                         | (rw [Nat.min_eq_left (by omega), Nat.min_eq_left (by omega), lost_next, if_neg hbi, List.append_nil]; done)
                         | (exfalso; omega)
                     ·
                       rw [Nat.min_eq_right (by omega), Nat.min_eq_right (by omega)]
                   rw [← hle] at hL4 ⊢
                   refine WX.loop_next (i + 1, (o4, c4, gs ++ [g], rs1 ++ [⟨some ⟨g, 0, none⟩, _, _⟩], w4.heap.size), (al, cl)) ⟨rfl, rfl, rfl, rfl, by show _ = some (Value.slice o4 (rs1 ++ [_]).length c4); rfl, rfl, rfl, trivial⟩ ⟨by show i + 1 ≤ _; omega, hD4, hA4, Nat.le_refl _, by show w.heap.size ≤ w4.heap.size; omega, hL4, hc, hb, hw⟩ (by show rs.length - (i + 1) < rs.length - i; omega))
                | exact WX.loop_next (i + 1, (o4, c4, gs ++ [g], rs1 ++ [⟨some ⟨g, 0, none⟩, _, _⟩], w4.heap.size), (a9, c9)) ⟨rfl, rfl, rfl, rfl, rfl, rfl, rfl, trivial⟩ ⟨by show i + 1 ≤ _; omega, hD4, hA9, by show w4.heap.size ≤ w9.heap.size; omega, by show w.heap.size ≤ w4.heap.size; omega, hL9, hc, hb, hw⟩ (by show rs.length - (i + 1) < rs.length - i; omega)
                | exact WX.loop_next (j + 1, a9, c9) ⟨rfl, rfl, rfl, rfl, rfl, rfl, rfl, rfl, rfl, rfl, rfl, rfl, rfl, trivial⟩ ⟨by show j + 1 ≤ _; omega, h19, hk6⟩ (by show (lostL i bad).length - (j + 1) < (lostL i bad).length - j; omega)
                | (have hz0 : fn (mx rs1) i t = 0 := by
                     obtain ⟨r, hr⟩ : ∃ r, rs1[i]? = some r := ⟨_, List.getElem?_eq_getElem (by omega)⟩
                     have hib : (i : Int) ∈ bad := by
                       rw [li, List.mem_map] at hiL
                       obtain ⟨i', h4, h5⟩ := hiL
                       obtain rfl : i' = i := by omega
                       exact (lost_mem.1 h4).2
                     rw [fn_at1 (mx_at hr), (hD.at' i r hr).2.2 hib, List.getD_eq_getElem?_getD, List.getElem?_replicate]
                     split <;> rfl
                   exact WX.loop_next (i + 1) ⟨rfl, rfl, rfl, rfl, rfl, rfl, rfl, rfl, rfl, rfl, by rw [sumF_step0 (by rw [hz0, mul_zero_r])]; rfl, rfl, trivial⟩ ⟨by omega, hG, hk3⟩ (by show k - (i + 1) < k - i; omega))
                | exact WX.loop_next (i + 1) ⟨rfl, rfl, rfl, rfl, rfl, rfl, rfl, rfl, rfl, rfl, by rw [sumF, hzf, ← UInt8.xor_assoc]; rfl, rfl, trivial⟩ ⟨by omega, hG, hk3⟩ (by show k - (i + 1) < k - i; omega)
                | (have hfe := frP_next k bad q
                   rw [if_pos hbq, List.append_nil] at hfe
                   rw [← hfe] at hfq hml hms hG ⊢
                   exact WX.loop_next (q + 1, (ar, cr, ms), (asu, cs)) ⟨rfl, rfl, rfl, rfl, rfl, rfl, rfl, rfl, rfl, rfl, trivial⟩ ⟨⟨by show q + 1 ≤ 3; omega, hfq⟩, ⟨hml, hms⟩, hG, hk3⟩ (by show 3 - (q + 1) < 3 - q; omega))
                | (have hfe := frP_next i bad q
                   rw [if_neg hbq] at hfe
                   have hs17 : s16 = rf q := by rw [hs16, hrf, ← hyf]
                   have hmf : (frP i bad q).map rf ++ [s16] = (frP i bad (q + 1)).map rf := by rw [hfe, List.map_append, hs17]; rfl
                   rw [hmf] at hG5
                   refine WX.loop_next (q + 1, (a4, c4, ms ++ [⟨a15, c15, (lostL i bad).map (wtq q)⟩]), (a5, c5)) ⟨rfl, rfl, rfl, rfl, rfl, rfl, rfl, rfl, by show some (Value.slice a5 ((frP i bad q).map rf ++ [s16]).length c5) = some (Value.slice a5 ((frP i bad (q + 1)).map rf).length c5); rw [hmf], rfl, trivial⟩ ⟨⟨by show q + 1 ≤ 3; omega, ?_⟩, ⟨?_, fun a q' r' h1 h2 => ?_⟩, hG5, hk3⟩ (by show 3 - (q + 1) < 3 - q; omega)
                   ·
                     show (frP i bad (q + 1)).length ≤ _
                     rw [hfe, List.length_append]
                     show _ + 1 ≤ _
                     omega
                   ·
                     show (ms ++ [_]).length = (frP i bad (q + 1)).length
                     rw [hfe, List.length_append, List.length_append, hml]
                     rfl
                   ·
                     have h1' : (frP i bad (q + 1))[a]? = some q' := h1
                     have h2' : (ms ++ [⟨a15, c15, (lostL i bad).map (wtq q)⟩])[a]? = some r' := h2
                     rw [hfe] at h1'
                     rcases get_snoc h1' with h3 | ⟨h3, h4⟩ <;> rcases get_snoc h2' with h5 | ⟨h5, h6⟩
                     ·
                       exact hms a q' r' h3 h5
                     ·
                       have := (List.getElem?_eq_some_iff.1 h3).1
                       omega
                     ·
                       have := (List.getElem?_eq_some_iff.1 h5).1
                       omega
                     ·
                       rw [h6, h4])
                | (have hA7 := hA6.upd (q := ⟨some ⟨gr, 0, none⟩, r3c, r3x⟩) (x' := r3x.set t u) hgr hr3 (by rw [List.length_set]) hk6 hrow
                   have hL7 := hL6.chg hk6 (fun x _ h1 h2 => h1.1.2.2 (by have h3 : x = gr := h2; rw [h3]; exact List.mem_of_getElem? hgr))
                   have hb7 := hb6.chg hk6 (fun x _ h1 h2 => by have h3 : x = gr := h2; omega)
                   have hw7 := hw6.chg hk6 (fun x hx h1 => by have h3 : x = gr := h1; omega)
                   have hH7 := hH3.set hiL hr3 (fun q _ => by omega) (show t < r3x.length by omega) u
                   have hV7 : ∀ (b' i' : Nat), b' < b + 1 → (lostL k bad)[b']? = some i' → fn (mx (rs3.set i ⟨some ⟨gr, 0, none⟩, r3c, r3x.set t u⟩)) i' t = xo.getD b' 0 := by
                     intro b' i' h1 h2
                     rw [mx_set, fn_setr2 (mx_at hr3) u (show t < r3x.length by omega)]
                     rcases Nat.lt_or_ge b' b with h3 | h3
                     ·
                       have := sorted_lt (lost_sorted k bad) h2 hi h3
                       rw [if_neg (by omega)]
                       exact hV b' i' h3 h2
                     ·
                       have h4 : b' = b := by omega
                       subst h4
                       rw [hi] at h2
                       injection h2 with h2
                       rw [if_pos ⟨h2.symm, rfl⟩, List.getD_eq_getElem?_getD, hu]
                       rfl
                   exact WX.loop_next (b + 1, rs3.set i ⟨some ⟨gr, 0, none⟩, r3c, r3x.set t u⟩) ⟨rfl, rfl, rfl, rfl, by show _ = some (Value.slice oo (rs3.set i _).length co); rw [List.length_set]; rfl, rfl, rfl, rfl, rfl, trivial⟩ ⟨by show b + 1 ≤ _; omega, hH7, hV7, by omega, hXr, hA7, hL7, hb7, hw7⟩ (by show (lostL k bad).length - (b + 1) < (lostL k bad).length - b; omega))
                | (have hbl : b = (lostL k bad).length := by omega
                   have hE : ∀ q ∈ fromL k bad, sumF k (fun j => mul (wtq q j) (fn (mx rs3) j t)) = fn (mx rs3) (k + q) t := by
                     intro q hq
                     obtain ⟨a', ha'⟩ := List.getElem?_of_mem hq
                     have hqL : k + q ∉ lostL k bad := fun h => by have := (lost_mem.1 h).1; omega
                     refine heal_eq (bad := bad) (y0 := fun j => fn (mx rs1) j t) rfl (fun j hj => hH3.same hj t) (fun j hj => ?_) ?_
                     ·
                       obtain ⟨r, hr⟩ : ∃ r, rs1[j]? = some r := ⟨_, List.getElem?_eq_getElem (by have := (lost_mem.1 hj).1; omega)⟩
                       show fn (mx rs1) j t = 0
                       rw [fn_at1 (mx_at hr), (hD.at' j r hr).2.2 (lost_mem.1 hj).2, List.getD_eq_getElem?_getD, List.getElem?_replicate]
                       split <;> rfl
                     ·
                       rw [hH3.same hqL t]
                       have h1 := hxe a' q ha'
                       rw [List.getD_eq_getElem?_getD (l := (fromL k bad).map rf), List.getElem?_map, ha', hrf] at h1
                       refine Eq.trans (sumF_cong (fun b' hb' => ?_)) (h1.trans (UInt8.xor_comm _ _))
                       obtain ⟨i', hi'⟩ : ∃ i', (lostL k bad)[b']? = some i' := ⟨_, List.getElem?_eq_getElem hb'⟩
                       have h2 := hV b' i' (by omega) hi'
                       have h3 : (lostL k bad).getD b' 0 = i' := by rw [List.getD_eq_getElem?_getD, hi']; rfl
                       rw [h3, h2]
                   exact WX.loop_next (t + 1, rs3) ⟨rfl, rfl, rfl, rfl, rfl, rfl, rfl, trivial⟩ ⟨by show t + 1 ≤ n; omega, hH3.step hE, hA, hNw, hL, hb, hw⟩ (by show n - (t + 1) < n - t; omega))
                | exact WX.loop_next (q + 1, rs4.set (k + q) ⟨ap, cp, pr⟩) ⟨rfl, rfl, by show _ = some (Value.slice oo (rs4.set _ _).length co); rw [List.length_set]; rfl, rfl, trivial⟩ ⟨by show q + 1 ≤ 3; omega, hFJ5, by show n1 ≤ _; omega, hO11, hI11, hb, hw⟩ (by show 3 - (q + 1) < 3 - q; omega)
                | exact WX.loop_next (q + 1, rs4) ⟨rfl, rfl, rfl, rfl, trivial⟩ ⟨by show q + 1 ≤ 3; omega, hFJ.skip hbq, by have := hk9.size; show n1 ≤ _; omega, hO, fun r hr => (hI r hr).pure hk9, hb, hw⟩ (by show 3 - (q + 1) < 3 - q; omega)
            ·
              refine WL.nil (WX.then_normal (WC.cond_false rfl (WC.exit (WX.then_exit (WX.then_exit (WX.block_here (WX.block_normal (?_))))))))
              refine WX.then_normal (WC.region (WL.move rfl rfl (WL.add64 rfl rfl (by first | omega | (constructor <;> omega)) rfl (WL.assign rfl rfl (WL.nil (?_))))))
              first
                | (have hle : lostL (min (i + 1) k) bad = lostL (min i k) bad := by
                     rcases Nat.lt_or_ge i k with h | h
                     ·
                       first
                         | (rw [Nat.min_eq_left (by omega), Nat.min_eq_left (by omega), lost_next, if_neg hbi, List.append_nil]; done)
                         | (exfalso; omega)
                     ·
                       rw [Nat.min_eq_right (by omega), Nat.min_eq_right (by omega)]
                   rw [← hle] at hL4 ⊢
                   refine WX.loop_next (i + 1, (o4, c4, gs ++ [g], rs1 ++ [⟨some ⟨g, 0, none⟩, _, _⟩], w4.heap.size), (al, cl)) ⟨rfl, rfl, rfl, rfl, by show _ = some (Value.slice o4 (rs1 ++ [_]).length c4); rfl, rfl, rfl, trivial⟩ ⟨by show i + 1 ≤ _; omega, hD4, hA4, Nat.le_refl _, by show w.heap.size ≤ w4.heap.size; omega, hL4, hc, hb, hw⟩ (by show rs.length - (i + 1) < rs.length - i; omega))
                | exact WX.loop_next (i + 1, (o4, c4, gs ++ [g], rs1 ++ [⟨some ⟨g, 0, none⟩, _, _⟩], w4.heap.size), (a9, c9)) ⟨rfl, rfl, rfl, rfl, rfl, rfl, rfl, trivial⟩ ⟨by show i + 1 ≤ _; omega, hD4, hA9, by show w4.heap.size ≤ w9.heap.size; omega, by show w.heap.size ≤ w4.heap.size; omega, hL9, hc, hb, hw⟩ (by show rs.length - (i + 1) < rs.length - i; omega)
                | exact WX.loop_next (j + 1, a9, c9) ⟨rfl, rfl, rfl, rfl, rfl, rfl, rfl, rfl, rfl, rfl, rfl, rfl, rfl, trivial⟩ ⟨by show j + 1 ≤ _; omega, h19, hk6⟩ (by show (lostL i bad).length - (j + 1) < (lostL i bad).length - j; omega)
                | (have hz0 : fn (mx rs1) i t = 0 := by
                     obtain ⟨r, hr⟩ : ∃ r, rs1[i]? = some r := ⟨_, List.getElem?_eq_getElem (by omega)⟩
                     have hib : (i : Int) ∈ bad := by
                       rw [li, List.mem_map] at hiL
                       obtain ⟨i', h4, h5⟩ := hiL
                       obtain rfl : i' = i := by omega
                       exact (lost_mem.1 h4).2
                     rw [fn_at1 (mx_at hr), (hD.at' i r hr).2.2 hib, List.getD_eq_getElem?_getD, List.getElem?_replicate]
                     split <;> rfl
                   exact WX.loop_next (i + 1) ⟨rfl, rfl, rfl, rfl, rfl, rfl, rfl, rfl, rfl, rfl, by rw [sumF_step0 (by rw [hz0, mul_zero_r])]; rfl, rfl, trivial⟩ ⟨by omega, hG, hk3⟩ (by show k - (i + 1) < k - i; omega))
                | exact WX.loop_next (i + 1) ⟨rfl, rfl, rfl, rfl, rfl, rfl, rfl, rfl, rfl, rfl, by rw [sumF, hzf, ← UInt8.xor_assoc]; rfl, rfl, trivial⟩ ⟨by omega, hG, hk3⟩ (by show k - (i + 1) < k - i; omega)
                | (have hfe := frP_next k bad q
                   rw [if_pos hbq, List.append_nil] at hfe
                   rw [← hfe] at hfq hml hms hG ⊢
                   exact WX.loop_next (q + 1, (ar, cr, ms), (asu, cs)) ⟨rfl, rfl, rfl, rfl, rfl, rfl, rfl, rfl, rfl, rfl, trivial⟩ ⟨⟨by show q + 1 ≤ 3; omega, hfq⟩, ⟨hml, hms⟩, hG, hk3⟩ (by show 3 - (q + 1) < 3 - q; omega))
                | (have hfe := frP_next i bad q
                   rw [if_neg hbq] at hfe
                   have hs17 : s16 = rf q := by rw [hs16, hrf, ← hyf]
                   have hmf : (frP i bad q).map rf ++ [s16] = (frP i bad (q + 1)).map rf := by rw [hfe, List.map_append, hs17]; rfl
                   rw [hmf] at hG5
                   refine WX.loop_next (q + 1, (a4, c4, ms ++ [⟨a15, c15, (lostL i bad).map (wtq q)⟩]), (a5, c5)) ⟨rfl, rfl, rfl, rfl, rfl, rfl, rfl, rfl, by show some (Value.slice a5 ((frP i bad q).map rf ++ [s16]).length c5) = some (Value.slice a5 ((frP i bad (q + 1)).map rf).length c5); rw [hmf], rfl, trivial⟩ ⟨⟨by show q + 1 ≤ 3; omega, ?_⟩, ⟨?_, fun a q' r' h1 h2 => ?_⟩, hG5, hk3⟩ (by show 3 - (q + 1) < 3 - q; omega)
                   ·
                     show (frP i bad (q + 1)).length ≤ _
                     rw [hfe, List.length_append]
                     show _ + 1 ≤ _
                     omega
                   ·
                     show (ms ++ [_]).length = (frP i bad (q + 1)).length
                     rw [hfe, List.length_append, List.length_append, hml]
                     rfl
                   ·
                     have h1' : (frP i bad (q + 1))[a]? = some q' := h1
                     have h2' : (ms ++ [⟨a15, c15, (lostL i bad).map (wtq q)⟩])[a]? = some r' := h2
                     rw [hfe] at h1'
                     rcases get_snoc h1' with h3 | ⟨h3, h4⟩ <;> rcases get_snoc h2' with h5 | ⟨h5, h6⟩
                     ·
                       exact hms a q' r' h3 h5
                     ·
                       have := (List.getElem?_eq_some_iff.1 h3).1
                       omega
                     ·
                       have := (List.getElem?_eq_some_iff.1 h5).1
                       omega
                     ·
                       rw [h6, h4])
                | (have hA7 := hA6.upd (q := ⟨some ⟨gr, 0, none⟩, r3c, r3x⟩) (x' := r3x.set t u) hgr hr3 (by rw [List.length_set]) hk6 hrow
                   have hL7 := hL6.chg hk6 (fun x _ h1 h2 => h1.1.2.2 (by have h3 : x = gr := h2; rw [h3]; exact List.mem_of_getElem? hgr))
                   have hb7 := hb6.chg hk6 (fun x _ h1 h2 => by have h3 : x = gr := h2; omega)
                   have hw7 := hw6.chg hk6 (fun x hx h1 => by have h3 : x = gr := h1; omega)
                   have hH7 := hH3.set hiL hr3 (fun q _ => by omega) (show t < r3x.length by omega) u
                   have hV7 : ∀ (b' i' : Nat), b' < b + 1 → (lostL k bad)[b']? = some i' → fn (mx (rs3.set i ⟨some ⟨gr, 0, none⟩, r3c, r3x.set t u⟩)) i' t = xo.getD b' 0 := by
                     intro b' i' h1 h2
                     rw [mx_set, fn_setr2 (mx_at hr3) u (show t < r3x.length by omega)]
                     rcases Nat.lt_or_ge b' b with h3 | h3
                     ·
                       have := sorted_lt (lost_sorted k bad) h2 hi h3
                       rw [if_neg (by omega)]
                       exact hV b' i' h3 h2
                     ·
                       have h4 : b' = b := by omega
                       subst h4
                       rw [hi] at h2
                       injection h2 with h2
                       rw [if_pos ⟨h2.symm, rfl⟩, List.getD_eq_getElem?_getD, hu]
                       rfl
                   exact WX.loop_next (b + 1, rs3.set i ⟨some ⟨gr, 0, none⟩, r3c, r3x.set t u⟩) ⟨rfl, rfl, rfl, rfl, by show _ = some (Value.slice oo (rs3.set i _).length co); rw [List.length_set]; rfl, rfl, rfl, rfl, rfl, trivial⟩ ⟨by show b + 1 ≤ _; omega, hH7, hV7, by omega, hXr, hA7, hL7, hb7, hw7⟩ (by show (lostL k bad).length - (b + 1) < (lostL k bad).length - b; omega))
                | (have hbl : b = (lostL k bad).length := by omega
                   have hE : ∀ q ∈ fromL k bad, sumF k (fun j => mul (wtq q j) (fn (mx rs3) j t)) = fn (mx rs3) (k + q) t := by
                     intro q hq
                     obtain ⟨a', ha'⟩ := List.getElem?_of_mem hq
                     have hqL : k + q ∉ lostL k bad := fun h => by have := (lost_mem.1 h).1; omega
                     refine heal_eq (bad := bad) (y0 := fun j => fn (mx rs1) j t) rfl (fun j hj => hH3.same hj t) (fun j hj => ?_) ?_
                     ·
                       obtain ⟨r, hr⟩ : ∃ r, rs1[j]? = some r := ⟨_, List.getElem?_eq_getElem (by have := (lost_mem.1 hj).1; omega)⟩
                       show fn (mx rs1) j t = 0
                       rw [fn_at1 (mx_at hr), (hD.at' j r hr).2.2 (lost_mem.1 hj).2, List.getD_eq_getElem?_getD, List.getElem?_replicate]
                       split <;> rfl
                     ·
                       rw [hH3.same hqL t]
                       have h1 := hxe a' q ha'
                       rw [List.getD_eq_getElem?_getD (l := (fromL k bad).map rf), List.getElem?_map, ha', hrf] at h1
                       refine Eq.trans (sumF_cong (fun b' hb' => ?_)) (h1.trans (UInt8.xor_comm _ _))
                       obtain ⟨i', hi'⟩ : ∃ i', (lostL k bad)[b']? = some i' := ⟨_, List.getElem?_eq_getElem hb'⟩
                       have h2 := hV b' i' (by omega) hi'
                       have h3 : (lostL k bad).getD b' 0 = i' := by rw [List.getD_eq_getElem?_getD, hi']; rfl
                       rw [h3, h2]
                   exact WX.loop_next (t + 1, rs3) ⟨rfl, rfl, rfl, rfl, rfl, rfl, rfl, trivial⟩ ⟨by show t + 1 ≤ n; omega, hH3.step hE, hA, hNw, hL, hb, hw⟩ (by show n - (t + 1) < n - t; omega))
                | exact WX.loop_next (q + 1, rs4.set (k + q) ⟨ap, cp, pr⟩) ⟨rfl, rfl, by show _ = some (Value.slice oo (rs4.set _ _).length co); rw [List.length_set]; rfl, rfl, trivial⟩ ⟨by show q + 1 ≤ 3; omega, hFJ5, by show n1 ≤ _; omega, hO11, hI11, hb, hw⟩ (by show 3 - (q + 1) < 3 - q; omega)
                | exact WX.loop_next (q + 1, rs4) ⟨rfl, rfl, rfl, rfl, trivial⟩ ⟨by show q + 1 ≤ 3; omega, hFJ.skip hbq, by have := hk9.size; show n1 ≤ _; omega, hO, fun r hr => (hI r hr).pure hk9, hb, hw⟩ (by show 3 - (q + 1) < 3 - q; omega)
        ·
          refine WL.pickT rfl rfl rfl (WL.nil (WX.then_normal (WC.cond_false rfl (WC.exit (WX.then_exit (WX.then_exit (WX.block_here (?_))))))))
          first
            | (have hfd := frP_done (k := k) (bad := bad) (q := q) hq3 hfq (by omega)
               rw [hfd] at hml hms hG
               exact WX.cutN ((ar, cr, ms), (asu, cs)) ⟨rfl, rfl, rfl, rfl, rfl, rfl, rfl, rfl, by show some (Value.slice asu ((frP k bad q).map rf).length cs) = _; rw [hfd], trivial⟩ ⟨⟨hml, hms⟩, hG, hk3⟩)
            | (have htn : t = n := by omega
               subst htn
               exact WX.cutN rs2 ⟨rfl, rfl, rfl, rfl, rfl, trivial⟩ ⟨hH, hA, hNw, hb, hw⟩)
            | (have hL0 : lostL k bad = [] := List.eq_nil_of_length_eq_zero (by omega)
               have hF0 : fromL k bad = [] := List.eq_nil_of_length_eq_zero (by omega)
               refine WX.cutN rs2 ⟨rfl, rfl, rfl, rfl, rfl, trivial⟩ ⟨⟨hH.len, hH.row, fun t' _ q hq => ?_⟩, hA, hNw, hb, hw⟩
               rw [hF0] at hq
               cases hq)
      ·
        refine WL.move rfl rfl (WL.pass rfl rfl rfl rfl (WL.pass rfl rfl rfl rfl (WL.pass rfl rfl rfl rfl (WL.pickF rfl rfl rfl (WL.nil (WX.then_normal (WC.cond_false rfl (?_))))))))
        refine WC.exit (WX.then_exit (WX.then_exit (WX.block_here (?_))))
        first
          | (have hfd := frP_done (k := k) (bad := bad) (q := q) hq3 hfq (by omega)
             rw [hfd] at hml hms hG
             exact WX.cutN ((ar, cr, ms), (asu, cs)) ⟨rfl, rfl, rfl, rfl, rfl, rfl, rfl, rfl, by show some (Value.slice asu ((frP k bad q).map rf).length cs) = _; rw [hfd], trivial⟩ ⟨⟨hml, hms⟩, hG, hk3⟩)
          | (have htn : t = n := by omega
             subst htn
             exact WX.cutN rs2 ⟨rfl, rfl, rfl, rfl, rfl, trivial⟩ ⟨hH, hA, hNw, hb, hw⟩)
          | (have hL0 : lostL k bad = [] := List.eq_nil_of_length_eq_zero (by omega)
             have hF0 : fromL k bad = [] := List.eq_nil_of_length_eq_zero (by omega)
             refine WX.cutN rs2 ⟨rfl, rfl, rfl, rfl, rfl, trivial⟩ ⟨⟨hH.len, hH.row, fun t' _ q hq => ?_⟩, hA, hNw, hb, hw⟩
             rw [hF0] at hq
             cases hq)
    ·
      clear hA hL hLr hc hb hw
      rintro rs2 w8 ⟨hH, hA, hNw, hb, hw⟩
      have hHl := hH.len
      refine WX.then_normal (WC.seq (WC.seq (WC.region (WL.assign rfl rfl (WL.nil (WX.then_normal (WC.block (?_))))))))
      have hI : ∀ r ∈ rs2, RSl (fun b => ¬ Eqb oo b) w8 eb r.ao r.cap r.xs := fun r hr => by
        obtain ⟨j, hj⟩ := List.getElem?_of_mem hr
        obtain ⟨g, hg, h1, h2, h3⟩ := hA.at hj
        rw [h1]
        exact h2.rsl.mono (fun b e => by have e : b = g := e; rw [e]; exact h3)
      have hD0 : DR (xss rs) bad n (k + 3) rs1 := hD
      have hO2 := hA.outer
      refine WC.loop (σ := Nat × List Rw) (fun s => [(1, .slice ab bad.length cb), (8, vi k), (9, .slice oo s.2.length co), (23, vi s.1)])
        (fun s w' => s.1 ≤ 3 ∧ FJ rs2 bad k n s.1 s.2 ∧ n1 ≤ w'.heap.size ∧ Row (fun x => w.heap.size ≤ x ∧ x < n1) w' 23 erow oo co s.2 ∧ (∀ r ∈ s.2, RSl (fun b => ¬ Eqb oo b) w' eb r.ao r.cap r.xs) ∧ RSl (· < w.heap.size) w' ei ab cb bad ∧ Chg Nob w w') (fun s => 3 - s.1) (0, rs2) ⟨rfl, rfl, rfl, rfl, trivial⟩ ⟨Nat.zero_le _, FJ.start _ _ (by omega), by omega, hO2, hI, hb, hw⟩ ?_
      clear hA hI hO2 hb hw
      rintro ⟨q, rs4⟩ w9 ⟨hq, hFJ, hnw, hO, hI, hb, hw⟩
      simp only at hq hFJ hO hI
      dsimp only
      have hk9 := Chg.refl Nob w9
      have hfjl := hFJ.len
      refine WC.seq (WC.seq (WC.region (WL.move rfl rfl (?_))))
      refine WL.lss? rfl rfl rfl (fun h172 => ?_) (fun h172 => ?_)
      ·
        refine WL.nil (WX.then_normal (WC.cond_true rfl (WC.skip (WX.then_normal (WC.seq (WC.block (WC.seq (?_))))))))
        refine WC.region (WL.move rfl rfl (WL.move rfl rfl (WL.move rfl rfl (?_))))
        refine WL.add64 rfl rfl (by constructor <;> omega) rfl ?_
        rw [show ((k : Int) + (q : Int)) = ((k + q : Nat) : Int) from by omega]
        refine WL.call eg_35 rfl rfl (has_calls hb (by omega) _) ?_
        rintro v w5 ⟨rfl, k5⟩
        have zs_k5 := k5.size
        replace hO := hO.pure k5
        replace hb := hb.pure k5
        replace hw := hw.pure k5
        replace hk9 := hk9.pure k5
        by_cases hbq : ((k + q : Nat) : Int) ∈ bad
        ·
          rw [decide_eq_true hbq]
          refine WL.nil (WX.then_normal (WC.cond_true rfl (WC.region (WL.move rfl rfl (WL.move rfl rfl (WL.move rfl rfl (?_)))))))
          refine WL.add64 rfl rfl (by constructor <;> omega) rfl ?_
          rw [show ((k : Int) + (q : Int)) = ((k + q : Nat) : Int) from by omega]
          refine WL.move rfl rfl (WL.move rfl rfl (?_))
          refine WL.slice (e := erow) (xs := rs4) (l := 0) (h := k) (k := .i64) (j := .i64) Try.underlying22 Try.sizeOf23 hO.rsl rfl (.inr ⟨rfl, rfl⟩) (.inl rfl) ⟨Nat.zero_le _, by omega⟩ rfl ?_
          intro az cz hz1 nz
          refine WL.move rfl rfl (?_)
          have hxt : xss ((rs4.take k).drop 0) = (xss rs2).take k := by
            rw [xss_take]
            apply List.ext_getElem?
            intro j
            rcases Nat.lt_or_ge j k with h3 | h3
            ·
              rw [List.getElem?_take_of_lt h3, List.getElem?_take_of_lt h3, xss, xss, List.getElem?_map, List.getElem?_map, hFJ.low j h3]
            ·
              rw [List.getElem?_eq_none (by rw [List.length_take]; omega), List.getElem?_eq_none (by rw [List.length_take]; omega)]
          have hlk : ((rs4.take k).drop 0).length = k := by simp; omega
          have hal : ∀ d ∈ xss ((rs4.take k).drop 0), d.length = n := fun d hd => by
            rw [hxt] at hd
            obtain ⟨j, hj⟩ := List.getElem?_of_mem (List.mem_of_mem_take hd)
            have hjl := (List.getElem?_eq_some_iff.1 hj).1
            rw [xss_len] at hjl
            obtain ⟨r3, hr3⟩ : ∃ r3, rs2[j]? = some r3 := ⟨_, List.getElem?_eq_getElem hjl⟩
            rw [xss_at hr3] at hj
            injection hj with hj
            obtain ⟨r1, hr1, _, _, h5, _⟩ := hH.back hr3
            rw [← hj, h5]
            exact (hD0.at' j r1 hr1).1
          have hcc : RS (fun _ => True) _ az cz ((rs4.take k).drop 0) := ⟨hz1.mono (fun _ _ => trivial), fun r h => ((hI r (List.mem_of_mem_take (List.mem_of_mem_drop h))).pure hk9).mono (fun _ _ => trivial)⟩
          refine WL.call eg_37 rfl rfl (parity_calls hcc (q := q) (by omega) (by omega) (by omega) (by omega) hal) ?_
          rintro v w10 ⟨⟨ap, cp, rfl, hp⟩, k10⟩
          rw [hlk, hxt] at hp ⊢
          obtain ⟨pr, hpr⟩ : ∃ pr, pr = prow (wtq q) ((xss rs2).take k) n k := ⟨_, rfl⟩
          rw [← hpr] at hp ⊢
          have zk9 := hk9.size
          have hpne : RSl (fun b => ¬ Eqb oo b) w10 eb ap cp pr := hp.rsl.mono (fun b h e => by have := (hO.at_.eqb e).2; have h2 : _ ≤ b := h; omega)
          have zs_k10 := k10.size
          replace hO := hO.pure k10
          replace hb := hb.pure k10
          replace hw := hw.pure k10
          replace hk9 := hk9.pure k10
          obtain ⟨go, hgo⟩ := hO.place0 (j := k + q) (by omega)
          refine WL.index (sz := 1) (j := k + q) Try.underlying22 Try.sizeOf23 (by show some (Value.slice oo _ _) = some (Value.slice (some ⟨go, 0, none⟩) _ _); rw [hgo]) rfl rfl (by omega) rfl ?_
          have hOq := hO
          rw [hgo] at hOq
          have hgow : w.heap.size ≤ go := (hO.at_ _ hgo).1
          have hgoe : Eqb oo go := ⟨_, hgo, rfl⟩
          refine WL.storeRow (z := ⟨ap, cp, pr⟩) (k + q) Try.sizeOf23 hOq rfl rfl rfl (by show 0 + (k + q) * 1 = k + q; omega) (by omega) rfl ?_
          intro w11 z11 hO11 k11
          rw [← hgo] at hO11
          have hI11 : ∀ r ∈ rs4.set (k + q) ⟨ap, cp, pr⟩, RSl (fun b => ¬ Eqb oo b) w11 eb r.ao r.cap r.xs := fun r hr => by
            rcases List.mem_or_eq_of_mem_set hr with h1 | h1
            ·
              exact ((hI r h1).pure hk9).chg k11 (fun b _ h2 h3 => h2 (by have h4 : b = go := h3; rw [h4]; exact hgoe))
            ·
              rw [h1]
              exact hpne.chg k11 (fun b _ h2 h3 => h2 (by have h4 : b = go := h3; rw [h4]; exact hgoe))
          replace hb := hb.chg k11 (fun b _ h1 h2 => by have h3 : b = go := h2; omega)
          replace hw := hw.chg k11 (fun x h0 h2 => by have h3 : x = go := h2; omega)
          have hFJ5 := hFJ.put (z := ⟨ap, cp, pr⟩) (by omega) hbq hpr
          have zk9 := hk9.size
          refine WL.nil (WX.block_normal (WX.then_normal (WC.region (WL.move rfl rfl (WL.add64 rfl rfl (by first | omega | (constructor <;> omega)) rfl (WL.assign rfl rfl (WL.nil (?_))))))))
          first
            | (have hle : lostL (min (i + 1) k) bad = lostL (min i k) bad := by
                 rcases Nat.lt_or_ge i k with h | h
                 ·
                   first
                     | (rw [Nat.min_eq_left (by omega), Nat.min_eq_left (by omega), lost_next, if_neg hbi, List.append_nil]; done)
                     | (exfalso; omega)
                 ·
                   rw [Nat.min_eq_right (by omega), Nat.min_eq_right (by omega)]
               rw [← hle] at hL4 ⊢
               refine WX.loop_next (i + 1, (o4, c4, gs ++ [g], rs1 ++ [⟨some ⟨g, 0, none⟩, _, _⟩], w4.heap.size), (al, cl)) ⟨rfl, rfl, rfl, rfl, by show _ = some (Value.slice o4 (rs1 ++ [_]).length c4); rfl, rfl, rfl, trivial⟩ ⟨by show i + 1 ≤ _; omega, hD4, hA4, Nat.le_refl _, by show w.heap.size ≤ w4.heap.size; omega, hL4, hc, hb, hw⟩ (by show rs.length - (i + 1) < rs.length - i; omega))
            | exact WX.loop_next (i + 1, (o4, c4, gs ++ [g], rs1 ++ [⟨some ⟨g, 0, none⟩, _, _⟩], w4.heap.size), (a9, c9)) ⟨rfl, rfl, rfl, rfl, rfl, rfl, rfl, trivial⟩ ⟨by show i + 1 ≤ _; omega, hD4, hA9, by show w4.heap.size ≤ w9.heap.size; omega, by show w.heap.size ≤ w4.heap.size; omega, hL9, hc, hb, hw⟩ (by show rs.length - (i + 1) < rs.length - i; omega)
            | exact WX.loop_next (j + 1, a9, c9) ⟨rfl, rfl, rfl, rfl, rfl, rfl, rfl, rfl, rfl, rfl, rfl, rfl, rfl, trivial⟩ ⟨by show j + 1 ≤ _; omega, h19, hk6⟩ (by show (lostL i bad).length - (j + 1) < (lostL i bad).length - j; omega)
            | (have hz0 : fn (mx rs1) i t = 0 := by
                 obtain ⟨r, hr⟩ : ∃ r, rs1[i]? = some r := ⟨_, List.getElem?_eq_getElem (by omega)⟩
                 have hib : (i : Int) ∈ bad := by
                   rw [li, List.mem_map] at hiL
                   obtain ⟨i', h4, h5⟩ := hiL
                   obtain rfl : i' = i := by omega
                   exact (lost_mem.1 h4).2
                 rw [fn_at1 (mx_at hr), (hD.at' i r hr).2.2 hib, List.getD_eq_getElem?_getD, List.getElem?_replicate]
                 split <;> rfl
               exact WX.loop_next (i + 1) ⟨rfl, rfl, rfl, rfl, rfl, rfl, rfl, rfl, rfl, rfl, by rw [sumF_step0 (by rw [hz0, mul_zero_r])]; rfl, rfl, trivial⟩ ⟨by omega, hG, hk3⟩ (by show k - (i + 1) < k - i; omega))
            | exact WX.loop_next (i + 1) ⟨rfl, rfl, rfl, rfl, rfl, rfl, rfl, rfl, rfl, rfl, by rw [sumF, hzf, ← UInt8.xor_assoc]; rfl, rfl, trivial⟩ ⟨by omega, hG, hk3⟩ (by show k - (i + 1) < k - i; omega)
            | (have hfe := frP_next k bad q
               rw [if_pos hbq, List.append_nil] at hfe
               rw [← hfe] at hfq hml hms hG ⊢
               exact WX.loop_next (q + 1, (ar, cr, ms), (asu, cs)) ⟨rfl, rfl, rfl, rfl, rfl, rfl, rfl, rfl, rfl, rfl, trivial⟩ ⟨⟨by show q + 1 ≤ 3; omega, hfq⟩, ⟨hml, hms⟩, hG, hk3⟩ (by show 3 - (q + 1) < 3 - q; omega))
            | (have hfe := frP_next i bad q
               rw [if_neg hbq] at hfe
               have hs17 : s16 = rf q := by rw [hs16, hrf, ← hyf]
               have hmf : (frP i bad q).map rf ++ [s16] = (frP i bad (q + 1)).map rf := by rw [hfe, List.map_append, hs17]; rfl
               rw [hmf] at hG5
               refine WX.loop_next (q + 1, (a4, c4, ms ++ [⟨a15, c15, (lostL i bad).map (wtq q)⟩]), (a5, c5)) ⟨rfl, rfl, rfl, rfl, rfl, rfl, rfl, rfl, by show some (Value.slice a5 ((frP i bad q).map rf ++ [s16]).length c5) = some (Value.slice a5 ((frP i bad (q + 1)).map rf).length c5); rw [hmf], rfl, trivial⟩ ⟨⟨by show q + 1 ≤ 3; omega, ?_⟩, ⟨?_, fun a q' r' h1 h2 => ?_⟩, hG5, hk3⟩ (by show 3 - (q + 1) < 3 - q; omega)
               ·
                 show (frP i bad (q + 1)).length ≤ _
                 rw [hfe, List.length_append]
                 show _ + 1 ≤ _
                 omega
               ·
                 show (ms ++ [_]).length = (frP i bad (q + 1)).length
                 rw [hfe, List.length_append, List.length_append, hml]
                 rfl
               ·
                 have h1' : (frP i bad (q + 1))[a]? = some q' := h1
                 have h2' : (ms ++ [⟨a15, c15, (lostL i bad).map (wtq q)⟩])[a]? = some r' := h2
                 rw [hfe] at h1'
                 rcases get_snoc h1' with h3 | ⟨h3, h4⟩ <;> rcases get_snoc h2' with h5 | ⟨h5, h6⟩
                 ·
                   exact hms a q' r' h3 h5
                 ·
                   have := (List.getElem?_eq_some_iff.1 h3).1
                   omega
                 ·
                   have := (List.getElem?_eq_some_iff.1 h5).1
                   omega
                 ·
                   rw [h6, h4])
            | (have hA7 := hA6.upd (q := ⟨some ⟨gr, 0, none⟩, r3c, r3x⟩) (x' := r3x.set t u) hgr hr3 (by rw [List.length_set]) hk6 hrow
               have hL7 := hL6.chg hk6 (fun x _ h1 h2 => h1.1.2.2 (by have h3 : x = gr := h2; rw [h3]; exact List.mem_of_getElem? hgr))
               have hb7 := hb6.chg hk6 (fun x _ h1 h2 => by have h3 : x = gr := h2; omega)
               have hw7 := hw6.chg hk6 (fun x hx h1 => by have h3 : x = gr := h1; omega)
               have hH7 := hH3.set hiL hr3 (fun q _ => by omega) (show t < r3x.length by omega) u
               have hV7 : ∀ (b' i' : Nat), b' < b + 1 → (lostL k bad)[b']? = some i' → fn (mx (rs3.set i ⟨some ⟨gr, 0, none⟩, r3c, r3x.set t u⟩)) i' t = xo.getD b' 0 := by
                 intro b' i' h1 h2
                 rw [mx_set, fn_setr2 (mx_at hr3) u (show t < r3x.length by omega)]
                 rcases Nat.lt_or_ge b' b with h3 | h3
                 ·
                   have := sorted_lt (lost_sorted k bad) h2 hi h3
                   rw [if_neg (by omega)]
                   exact hV b' i' h3 h2
                 ·
                   have h4 : b' = b := by omega
                   subst h4
                   rw [hi] at h2
                   injection h2 with h2
                   rw [if_pos ⟨h2.symm, rfl⟩, List.getD_eq_getElem?_getD, hu]
                   rfl
               exact WX.loop_next (b + 1, rs3.set i ⟨some ⟨gr, 0, none⟩, r3c, r3x.set t u⟩) ⟨rfl, rfl, rfl, rfl, by show _ = some (Value.slice oo (rs3.set i _).length co); rw [List.length_set]; rfl, rfl, rfl, rfl, rfl, trivial⟩ ⟨by show b + 1 ≤ _; omega, hH7, hV7, by omega, hXr, hA7, hL7, hb7, hw7⟩ (by show (lostL k bad).length - (b + 1) < (lostL k bad).length - b; omega))
            | (have hbl : b = (lostL k bad).length := by omega
               have hE : ∀ q ∈ fromL k bad, sumF k (fun j => mul (wtq q j) (fn (mx rs3) j t)) = fn (mx rs3) (k + q) t := by
                 intro q hq
                 obtain ⟨a', ha'⟩ := List.getElem?_of_mem hq
                 have hqL : k + q ∉ lostL k bad := fun h => by have := (lost_mem.1 h).1; omega
                 refine heal_eq (bad := bad) (y0 := fun j => fn (mx rs1) j t) rfl (fun j hj => hH3.same hj t) (fun j hj => ?_) ?_
                 ·
                   obtain ⟨r, hr⟩ : ∃ r, rs1[j]? = some r := ⟨_, List.getElem?_eq_getElem (by have := (lost_mem.1 hj).1; omega)⟩
                   show fn (mx rs1) j t = 0
                   rw [fn_at1 (mx_at hr), (hD.at' j r hr).2.2 (lost_mem.1 hj).2, List.getD_eq_getElem?_getD, List.getElem?_replicate]
                   split <;> rfl
                 ·
                   rw [hH3.same hqL t]
                   have h1 := hxe a' q ha'
                   rw [List.getD_eq_getElem?_getD (l := (fromL k bad).map rf), List.getElem?_map, ha', hrf] at h1
                   refine Eq.trans (sumF_cong (fun b' hb' => ?_)) (h1.trans (UInt8.xor_comm _ _))
                   obtain ⟨i', hi'⟩ : ∃ i', (lostL k bad)[b']? = some i' := ⟨_, List.getElem?_eq_getElem hb'⟩
                   have h2 := hV b' i' (by omega) hi'
                   have h3 : (lostL k bad).getD b' 0 = i' := by rw [List.getD_eq_getElem?_getD, hi']; rfl
                   rw [h3, h2]
               exact WX.loop_next (t + 1, rs3) ⟨rfl, rfl, rfl, rfl, rfl, rfl, rfl, trivial⟩ ⟨by show t + 1 ≤ n; omega, hH3.step hE, hA, hNw, hL, hb, hw⟩ (by show n - (t + 1) < n - t; omega))
            | exact WX.loop_next (q + 1, rs4.set (k + q) ⟨ap, cp, pr⟩) ⟨rfl, rfl, by show _ = some (Value.slice oo (rs4.set _ _).length co); rw [List.length_set]; rfl, rfl, trivial⟩ ⟨by show q + 1 ≤ 3; omega, hFJ5, by show n1 ≤ _; omega, hO11, hI11, hb, hw⟩ (by show 3 - (q + 1) < 3 - q; omega)
            | exact WX.loop_next (q + 1, rs4) ⟨rfl, rfl, rfl, rfl, trivial⟩ ⟨by show q + 1 ≤ 3; omega, hFJ.skip hbq, by have := hk9.size; show n1 ≤ _; omega, hO, fun r hr => (hI r hr).pure hk9, hb, hw⟩ (by show 3 - (q + 1) < 3 - q; omega)
        ·
          rw [decide_eq_false hbq]
          refine WL.nil (WX.then_normal (WC.cond_false rfl (WC.skip (WX.block_normal (WX.then_normal (WC.region (WL.move rfl rfl (?_))))))))
          refine WL.add64 rfl rfl (by first | omega | (constructor <;> omega)) rfl (WL.assign rfl rfl (WL.nil (?_)))
          first
            | (have hle : lostL (min (i + 1) k) bad = lostL (min i k) bad := by
                 rcases Nat.lt_or_ge i k with h | h
                 ·
                   first
                     | (rw [Nat.min_eq_left (by omega), Nat.min_eq_left (by omega), lost_next, if_neg hbi, List.append_nil]; done)
                     | (exfalso; omega)
                 ·
                   rw [Nat.min_eq_right (by omega), Nat.min_eq_right (by omega)]
               rw [← hle] at hL4 ⊢
               refine WX.loop_next (i + 1, (o4, c4, gs ++ [g], rs1 ++ [⟨some ⟨g, 0, none⟩, _, _⟩], w4.heap.size), (al, cl)) ⟨rfl, rfl, rfl, rfl, by show _ = some (Value.slice o4 (rs1 ++ [_]).length c4); rfl, rfl, rfl, trivial⟩ ⟨by show i + 1 ≤ _; omega, hD4, hA4, Nat.le_refl _, by show w.heap.size ≤ w4.heap.size; omega, hL4, hc, hb, hw⟩ (by show rs.length - (i + 1) < rs.length - i; omega))
            | exact WX.loop_next (i + 1, (o4, c4, gs ++ [g], rs1 ++ [⟨some ⟨g, 0, none⟩, _, _⟩], w4.heap.size), (a9, c9)) ⟨rfl, rfl, rfl, rfl, rfl, rfl, rfl, trivial⟩ ⟨by show i + 1 ≤ _; omega, hD4, hA9, by show w4.heap.size ≤ w9.heap.size; omega, by show w.heap.size ≤ w4.heap.size; omega, hL9, hc, hb, hw⟩ (by show rs.length - (i + 1) < rs.length - i; omega)
            | exact WX.loop_next (j + 1, a9, c9) ⟨rfl, rfl, rfl, rfl, rfl, rfl, rfl, rfl, rfl, rfl, rfl, rfl, rfl, trivial⟩ ⟨by show j + 1 ≤ _; omega, h19, hk6⟩ (by show (lostL i bad).length - (j + 1) < (lostL i bad).length - j; omega)
            | (have hz0 : fn (mx rs1) i t = 0 := by
                 obtain ⟨r, hr⟩ : ∃ r, rs1[i]? = some r := ⟨_, List.getElem?_eq_getElem (by omega)⟩
                 have hib : (i : Int) ∈ bad := by
                   rw [li, List.mem_map] at hiL
                   obtain ⟨i', h4, h5⟩ := hiL
                   obtain rfl : i' = i := by omega
                   exact (lost_mem.1 h4).2
                 rw [fn_at1 (mx_at hr), (hD.at' i r hr).2.2 hib, List.getD_eq_getElem?_getD, List.getElem?_replicate]
                 split <;> rfl
               exact WX.loop_next (i + 1) ⟨rfl, rfl, rfl, rfl, rfl, rfl, rfl, rfl, rfl, rfl, by rw [sumF_step0 (by rw [hz0, mul_zero_r])]; rfl, rfl, trivial⟩ ⟨by omega, hG, hk3⟩ (by show k - (i + 1) < k - i; omega))
            | exact WX.loop_next (i + 1) ⟨rfl, rfl, rfl, rfl, rfl, rfl, rfl, rfl, rfl, rfl, by rw [sumF, hzf, ← UInt8.xor_assoc]; rfl, rfl, trivial⟩ ⟨by omega, hG, hk3⟩ (by show k - (i + 1) < k - i; omega)
            | (have hfe := frP_next k bad q
               rw [if_pos hbq, List.append_nil] at hfe
               rw [← hfe] at hfq hml hms hG ⊢
               exact WX.loop_next (q + 1, (ar, cr, ms), (asu, cs)) ⟨rfl, rfl, rfl, rfl, rfl, rfl, rfl, rfl, rfl, rfl, trivial⟩ ⟨⟨by show q + 1 ≤ 3; omega, hfq⟩, ⟨hml, hms⟩, hG, hk3⟩ (by show 3 - (q + 1) < 3 - q; omega))
            | (have hfe := frP_next i bad q
               rw [if_neg hbq] at hfe
               have hs17 : s16 = rf q := by rw [hs16, hrf, ← hyf]
               have hmf : (frP i bad q).map rf ++ [s16] = (frP i bad (q + 1)).map rf := by rw [hfe, List.map_append, hs17]; rfl
               rw [hmf] at hG5
               refine WX.loop_next (q + 1, (a4, c4, ms ++ [⟨a15, c15, (lostL i bad).map (wtq q)⟩]), (a5, c5)) ⟨rfl, rfl, rfl, rfl, rfl, rfl, rfl, rfl, by show some (Value.slice a5 ((frP i bad q).map rf ++ [s16]).length c5) = some (Value.slice a5 ((frP i bad (q + 1)).map rf).length c5); rw [hmf], rfl, trivial⟩ ⟨⟨by show q + 1 ≤ 3; omega, ?_⟩, ⟨?_, fun a q' r' h1 h2 => ?_⟩, hG5, hk3⟩ (by show 3 - (q + 1) < 3 - q; omega)
               ·
                 show (frP i bad (q + 1)).length ≤ _
                 rw [hfe, List.length_append]
                 show _ + 1 ≤ _
                 omega
               ·
                 show (ms ++ [_]).length = (frP i bad (q + 1)).length
                 rw [hfe, List.length_append, List.length_append, hml]
                 rfl
               ·
                 have h1' : (frP i bad (q + 1))[a]? = some q' := h1
                 have h2' : (ms ++ [⟨a15, c15, (lostL i bad).map (wtq q)⟩])[a]? = some r' := h2
                 rw [hfe] at h1'
                 rcases get_snoc h1' with h3 | ⟨h3, h4⟩ <;> rcases get_snoc h2' with h5 | ⟨h5, h6⟩
                 ·
                   exact hms a q' r' h3 h5
                 ·
                   have := (List.getElem?_eq_some_iff.1 h3).1
                   omega
                 ·
                   have := (List.getElem?_eq_some_iff.1 h5).1
                   omega
                 ·
                   rw [h6, h4])
            | (have hA7 := hA6.upd (q := ⟨some ⟨gr, 0, none⟩, r3c, r3x⟩) (x' := r3x.set t u) hgr hr3 (by rw [List.length_set]) hk6 hrow
               have hL7 := hL6.chg hk6 (fun x _ h1 h2 => h1.1.2.2 (by have h3 : x = gr := h2; rw [h3]; exact List.mem_of_getElem? hgr))
               have hb7 := hb6.chg hk6 (fun x _ h1 h2 => by have h3 : x = gr := h2; omega)
               have hw7 := hw6.chg hk6 (fun x hx h1 => by have h3 : x = gr := h1; omega)
               have hH7 := hH3.set hiL hr3 (fun q _ => by omega) (show t < r3x.length by omega) u
               have hV7 : ∀ (b' i' : Nat), b' < b + 1 → (lostL k bad)[b']? = some i' → fn (mx (rs3.set i ⟨some ⟨gr, 0, none⟩, r3c, r3x.set t u⟩)) i' t = xo.getD b' 0 := by
                 intro b' i' h1 h2
                 rw [mx_set, fn_setr2 (mx_at hr3) u (show t < r3x.length by omega)]
                 rcases Nat.lt_or_ge b' b with h3 | h3
                 ·
                   have := sorted_lt (lost_sorted k bad) h2 hi h3
                   rw [if_neg (by omega)]
                   exact hV b' i' h3 h2
                 ·
                   have h4 : b' = b := by omega
                   subst h4
                   rw [hi] at h2
                   injection h2 with h2
                   rw [if_pos ⟨h2.symm, rfl⟩, List.getD_eq_getElem?_getD, hu]
                   rfl
               exact WX.loop_next (b + 1, rs3.set i ⟨some ⟨gr, 0, none⟩, r3c, r3x.set t u⟩) ⟨rfl, rfl, rfl, rfl, by show _ = some (Value.slice oo (rs3.set i _).length co); rw [List.length_set]; rfl, rfl, rfl, rfl, rfl, trivial⟩ ⟨by show b + 1 ≤ _; omega, hH7, hV7, by omega, hXr, hA7, hL7, hb7, hw7⟩ (by show (lostL k bad).length - (b + 1) < (lostL k bad).length - b; omega))
            | (have hbl : b = (lostL k bad).length := by omega
               have hE : ∀ q ∈ fromL k bad, sumF k (fun j => mul (wtq q j) (fn (mx rs3) j t)) = fn (mx rs3) (k + q) t := by
                 intro q hq
                 obtain ⟨a', ha'⟩ := List.getElem?_of_mem hq
                 have hqL : k + q ∉ lostL k bad := fun h => by have := (lost_mem.1 h).1; omega
                 refine heal_eq (bad := bad) (y0 := fun j => fn (mx rs1) j t) rfl (fun j hj => hH3.same hj t) (fun j hj => ?_) ?_
                 ·
                   obtain ⟨r, hr⟩ : ∃ r, rs1[j]? = some r := ⟨_, List.getElem?_eq_getElem (by have := (lost_mem.1 hj).1; omega)⟩
                   show fn (mx rs1) j t = 0
                   rw [fn_at1 (mx_at hr), (hD.at' j r hr).2.2 (lost_mem.1 hj).2, List.getD_eq_getElem?_getD, List.getElem?_replicate]
                   split <;> rfl
                 ·
                   rw [hH3.same hqL t]
                   have h1 := hxe a' q ha'
                   rw [List.getD_eq_getElem?_getD (l := (fromL k bad).map rf), List.getElem?_map, ha', hrf] at h1
                   refine Eq.trans (sumF_cong (fun b' hb' => ?_)) (h1.trans (UInt8.xor_comm _ _))
                   obtain ⟨i', hi'⟩ : ∃ i', (lostL k bad)[b']? = some i' := ⟨_, List.getElem?_eq_getElem hb'⟩
                   have h2 := hV b' i' (by omega) hi'
                   have h3 : (lostL k bad).getD b' 0 = i' := by rw [List.getD_eq_getElem?_getD, hi']; rfl
                   rw [h3, h2]
               exact WX.loop_next (t + 1, rs3) ⟨rfl, rfl, rfl, rfl, rfl, rfl, rfl, trivial⟩ ⟨by show t + 1 ≤ n; omega, hH3.step hE, hA, hNw, hL, hb, hw⟩ (by show n - (t + 1) < n - t; omega))
            | exact WX.loop_next (q + 1, rs4.set (k + q) ⟨ap, cp, pr⟩) ⟨rfl, rfl, by show _ = some (Value.slice oo (rs4.set _ _).length co); rw [List.length_set]; rfl, rfl, trivial⟩ ⟨by show q + 1 ≤ 3; omega, hFJ5, by show n1 ≤ _; omega, hO11, hI11, hb, hw⟩ (by show 3 - (q + 1) < 3 - q; omega)
            | exact WX.loop_next (q + 1, rs4) ⟨rfl, rfl, rfl, rfl, trivial⟩ ⟨by show q + 1 ≤ 3; omega, hFJ.skip hbq, by have := hk9.size; show n1 ≤ _; omega, hO, fun r hr => (hI r hr).pure hk9, hb, hw⟩ (by show 3 - (q + 1) < 3 - q; omega)
      ·
        refine WL.nil (WX.then_normal (WC.cond_false rfl (WC.exit (WX.then_exit (WX.then_exit (WX.block_here (WX.then_normal (?_))))))))
        refine WC.seq (WC.region (WL.move rfl rfl (WL.assign rfl rfl (WL.assign rfl rfl (WL.nil (WX.then_normal (WC.ret (?_))))))))
        refine WX.ret2 (.inl rfl) Try.results18 rfl rfl ?_
        have hq3 : q = 3 := by omega
        subst hq3
        refine ⟨_, rfl, ⟨oo, co, rs4, rfl, ⟨hO.rsl.mono (fun _ _ => trivial), fun r hr => (hI r hr).mono (fun _ _ => trivial)⟩, ?_⟩, hw⟩
        refine rb_fin2 (rs1 := rs1) (fun j r h1 _ _ => (hD0.at' j r h1).1) (fun j r h1 _ h2 => (hD0.at' j r h1).2.1 h2) hH hFJ.len hFJ.low (fun q' h1 h2 => hFJ.old q' h1 (fun h => h2 h.2)) (fun q' h1 h2 => ?_)
        obtain ⟨r, hr, hx⟩ := hFJ.new q' h1 h2
        refine ⟨r, hr, ?_⟩
        have htk : (xss rs2).take k = (xss rs4).take k := by
          apply List.ext_getElem?
          intro j
          rcases Nat.lt_or_ge j k with h3 | h3
          ·
            rw [List.getElem?_take_of_lt h3, List.getElem?_take_of_lt h3, xss, xss, List.getElem?_map, List.getElem?_map, hFJ.low j h3]
          ·
            rw [List.getElem?_eq_none (by rw [List.length_take]; omega), List.getElem?_eq_none (by rw [List.length_take]; omega)]
        rw [hx, htk]
end Go.Proofs.Ytjdbjdgobhjbkaa
