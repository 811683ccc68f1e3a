import Derived.Test.YtjdbjdgobhjbkaaQParityHeals9
namespace Go.Proofs.Ytjdbjdgobhjbkaa
open Go.RowKit Go.HL
/-- what Rebuild has at its end is what it must answer -/
theorem rb_fin2 {cols : List (List UInt8)} {bad : List Int} {k n : Nat} {rs1 rs3 rs4 : List Rw} (hreal : ∀ (j : Nat) (r : Rw), rs1[j]? = some r → j < k + 3 → ¬ (k ≤ j ∧ (j : Int) ∈ bad) → r.xs.length = n) (hkeep : ∀ (j : Nat) (r : Rw), rs1[j]? = some r → j < k + 3 → (j : Int) ∉ bad → cols[j]? = some r.xs) (hH : HealI rs1 rs3 k (lostL k bad) (fromL k bad) n) (hlen : rs4.length = k + 3) (hlow : ∀ j, j < k → rs4[j]? = rs3[j]?) (hpar : ∀ q, q < 3 → ((k + q : Nat) : Int) ∉ bad → rs4[k + q]? = rs3[k + q]?)
    (hbad : ∀ q, q < 3 → ((k + q : Nat) : Int) ∈ bad → ∃ r, rs4[k + q]? = some r ∧ r.xs = prow (wtq q) ((xss rs4).take k) n k) : RB cols bad k n (xss rs4) := by
  have hlow2 : ∀ (j : Nat) (r : Rw), j < k → rs4[j]? = some r → r.xs.length = n := fun j r hj hr => by
    rw [hlow j hj] at hr
    obtain ⟨r1, hr1, _, _, h5, _⟩ := hH.back hr
    have h6 := hreal j r1 hr1 (by omega) (fun h => by omega)
    rw [h5, h6]
  have htl : ((xss rs4).take k).length = k := by rw [List.length_take, xss_len]; omega
  have hta : ∀ d ∈ (xss rs4).take k, d.length = n := fun d hd => by
    obtain ⟨j, hj⟩ := List.getElem?_of_mem hd
    have hjk : j < k := by have := (List.getElem?_eq_some_iff.1 hj).1; omega
    rw [List.getElem?_take_of_lt hjk] at hj
    obtain ⟨r, hr⟩ : ∃ r, rs4[j]? = some r := ⟨_, List.getElem?_eq_getElem (by omega)⟩
    rw [xss_at hr] at hj
    injection hj with hj
    rw [← hj]
    exact hlow2 j r hjk hr
  have hgood : ∀ (q : Nat) (r : Rw), q < 3 → ((k + q : Nat) : Int) ∉ bad → rs4[k + q]? = some r → r.xs.length = n := fun q r hq hb hr => by
    rw [hpar q hq hb] at hr
    obtain ⟨r1, hr1, _, _, h5, _⟩ := hH.back hr
    have h6 := hreal (k + q) r1 hr1 (by omega) (fun h => hb h.2)
    rw [h5, h6]
  refine ⟨by rw [xss_len]; exact hlen, fun x hx => ?_, fun j hj hb => ?_, fun q hq hc => ?_⟩
  · obtain ⟨j, hj⟩ := List.getElem?_of_mem hx
    have hjl : j < k + 3 := by have := (List.getElem?_eq_some_iff.1 hj).1; rw [xss_len] at this; omega
    obtain ⟨r, hr⟩ : ∃ r, rs4[j]? = some r := ⟨_, List.getElem?_eq_getElem (by omega)⟩
    rw [xss_at hr] at hj
    injection hj with hj
    rw [← hj]
    rcases Nat.lt_or_ge j k with h1 | h1
    · exact hlow2 j r h1 hr
    · have e : j = k + (j - k) := by omega
      by_cases hb : (j : Int) ∈ bad
      · obtain ⟨r', h2, h3⟩ := hbad (j - k) (by omega) (by rw [← e]; exact hb)
        rw [← e, hr] at h2
        injection h2 with h2
        rw [h2, h3]
        exact prow_len hta (by omega)
      · exact hgood (j - k) r (by omega) (by rw [← e]; exact hb) (by rw [← e]; exact hr)
  · obtain ⟨r, hr⟩ : ∃ r, rs4[j]? = some r := ⟨_, List.getElem?_eq_getElem (by omega)⟩
    have h3 : rs3[j]? = some r := by
      rcases Nat.lt_or_ge j k with h1 | h1
      · rw [← hlow j h1]; exact hr
      · have e : j = k + (j - k) := by omega
        have h2 := hpar (j - k) (by omega) (by rw [← e]; exact hb)
        rw [← e] at h2
        rw [← h2]; exact hr
    obtain ⟨r1, hr1, _, _, _, h5⟩ := hH.back h3
    rw [xss_at hr, h5 (fun h => hb (lost_mem.1 h).2), hkeep j r1 hr1 hj hb]
  · by_cases hb : ((k + q : Nat) : Int) ∈ bad
    · obtain ⟨r, h2, h3⟩ := hbad q hq hb
      rw [xss_at h2, h3]
    · have hf : q ∈ fromL k bad := hc.resolve_left hb
      obtain ⟨r, hr⟩ : ∃ r, rs4[k + q]? = some r := ⟨_, List.getElem?_eq_getElem (by omega)⟩
      rw [xss_at hr]
      congr 1
      have hrl := hgood q r hq hb hr
      have hr3 : rs3[k + q]? = some r := by rw [← hpar q hq hb]; exact hr
      refine getD_ext (by rw [hrl, prow_len hta (by omega)]) (fun t ht => ?_)
      have h1 := hH.eqs t (by omega) q hf
      rw [fn_at1 (mx_at hr3)] at h1
      rw [← h1, List.getD_eq_getElem?_getD, prow_at hta (by omega) (by omega), px_sumF]
      refine sumF_cong (fun j hj => ?_)
      congr 1
      exact fn_opt (by rw [List.getElem?_take_of_lt hj, mx, List.getElem?_map, xss, List.getElem?_map, hlow j hj]) t
theorem rb_fin {cols : List (List UInt8)} {bad : List Int} {k n : Nat} {rs1 rs3 rs4 : List Rw} (hI : RI cols bad k n (k + 3) rs1) (hH : HealI rs1 rs3 k (lostL k bad) (fromL k bad) n) (hlen : rs4.length = k + 3) (hlow : ∀ j, j < k → rs4[j]? = rs3[j]?) (hpar : ∀ q, q < 3 → ((k + q : Nat) : Int) ∉ bad → rs4[k + q]? = rs3[k + q]?)
    (hbad : ∀ q, q < 3 → ((k + q : Nat) : Int) ∈ bad → ∃ r, rs4[k + q]? = some r ∧ r.xs = prow (wtq q) ((xss rs4).take k) n k) : RB cols bad k n (xss rs4) :=
  rb_fin2 (fun j r h1 h2 h3 => (hI.real j r h1 h2 h3).choose_spec.2) (fun j r h1 h2 h3 => hI.keep j r h1 h2 h3) hH hlen hlow hpar hbad
/-- the parities that are put in their places -/
structure FI (rs3 pw : List Rw) (bad : List Int) (k q : Nat) (rs4 : List Rw) : Prop where
  len : rs4.length = k + 3
  low : ∀ j, j < k → rs4[j]? = rs3[j]?
  par : ∀ q', q' < 3 → rs4[k + q']? = if q' < q ∧ ((k + q' : Nat) : Int) ∈ bad then pw[q']? else rs3[k + q']?
theorem FI.start {rs3 : List Rw} (pw : List Rw) (bad : List Int) {k : Nat} (h : rs3.length = k + 3) : FI rs3 pw bad k 0 rs3 := ⟨h, fun _ _ => rfl, fun q' _ => by rw [if_neg (by omega)]⟩
theorem FI.skip {rs3 pw rs4 : List Rw} {bad : List Int} {k q : Nat} (h : FI rs3 pw bad k q rs4) (hb : ((k + q : Nat) : Int) ∉ bad) : FI rs3 pw bad k (q + 1) rs4 := ⟨h.len, h.low, fun q' hq => by
  rw [h.par q' hq]
  by_cases e : q' = q
  · subst e
    rw [if_neg (fun h => hb h.2), if_neg (fun h => hb h.2)]
  · by_cases e2 : q' < q ∧ ((k + q' : Nat) : Int) ∈ bad
    · rw [if_pos e2, if_pos ⟨by omega, e2.2⟩]
    · rw [if_neg e2, if_neg (fun h => e2 ⟨by omega, h.2⟩)]⟩
theorem FI.put {rs3 pw rs4 : List Rw} {bad : List Int} {k q : Nat} {z : Rw} (h : FI rs3 pw bad k q rs4) (hb : ((k + q : Nat) : Int) ∈ bad) (hq : q < 3) (hz : pw[q]? = some z) : FI rs3 pw bad k (q + 1) (rs4.set (k + q) z) := ⟨by rw [List.length_set]; exact h.len, fun j hj => by rw [List.getElem?_set_ne (by omega)]; exact h.low j hj, fun q' hq' => by
  by_cases e : q' = q
  · subst e
    rw [List.getElem?_set_self (by rw [h.len]; omega), if_pos ⟨by omega, hb⟩, hz]
  · rw [List.getElem?_set_ne (by omega), h.par q' hq']
    by_cases e2 : q' < q ∧ ((k + q' : Nat) : Int) ∈ bad
    · rw [if_pos e2, if_pos ⟨by omega, e2.2⟩]
    · rw [if_neg e2, if_neg (fun h => e2 ⟨by omega, h.2⟩)]⟩
end Go.Proofs.Ytjdbjdgobhjbkaa
namespace Go.Proofs.Ytjdbjdgobhjbkaa
open Go.RowKit Go.HL

theorem rebuild_bad {S S2 : Nat → Prop} {w : World} {ao ab : Option Addr} {c cb : Nat} {rs : List Rw} {bad : List Int} (hc : RS S w ao c rs) (hb : RSl S2 w ei ab cb bad) (hl : rs.length * 24 ≤ 140737488351232) (hbl : bad.length ≤ 140737488351232) (he : errB (xss rs) bad ≠ 0) :
    Calls Try.prog 19 [.slice ao rs.length c, .slice ab bad.length cb].toArray w (Ret fun v w' => v = .tuple #[.slice none 0 0, vi (errB (xss rs) bad)] ∧ Chg Nob w w') := by
  replace hc := hc.old
  replace hb := hb.old
  have hw := Chg.refl Nob w
  refine Calls.of_WC Try.func19 rfl Try.ntmps19 (by simp) ?_
  refine WC.seq (WC.region (WL.assign rfl rfl (WL.assign rfl rfl (WL.nil (WX.then_normal (WC.seq (WC.region (?_))))))))
  refine WL.move rfl rfl (WL.move rfl rfl (?_))
  refine WL.call eg_38 rfl rfl (right_calls hc hb hl hbl) ?_
  rintro v w1 ⟨rfl, k1⟩
  have zs_k1 := k1.size
  replace hc := hc.pure k1
  replace hb := hb.pure k1
  replace hw := hw.pure k1
  refine WL.move rfl rfl (WL.extract rfl rfl rfl (WL.extract rfl rfl rfl (WL.assign rfl rfl (WL.assign rfl rfl (WL.nil (WX.then_normal (WC.seq (?_))))))))
  refine WC.seq (WC.region (WL.move rfl rfl (?_)))
  refine WL.neqT rfl rfl rfl (by first | rfl | omega | decide) ?_
  refine WL.nil (WX.then_normal (WC.cond_true rfl (WC.seq (WC.region (WL.move rfl rfl (WL.assign rfl rfl (WL.assign rfl rfl (?_))))))))
  refine WL.nil (WX.then_normal (WC.ret (WX.then_ret (?_))))
  refine WX.ret2 (.inl rfl) Try.results19 rfl rfl ?_
  exact ⟨_, rfl, rfl, hw⟩
set_option maxHeartbeats 8000000 in
theorem rebuild_good {S S2 : Nat → Prop} {w : World} {ao ab : Option Addr} {c cb k n : Nat} {rs : List Rw} {bad : List Int} (hc : RS S w ao c rs) (hb : RSl S2 w ei ab cb bad) (hk : rs.length = k + 3) (hk1 : 1 ≤ k ∧ k ≤ 13) (he : errB (xss rs) bad = 0) (hb3 : bad.length ≤ 3) (hn : lenB (xss rs) bad = (n : Int)) (hev : EvenB (xss rs) bad n) :
    Calls Try.prog 19 [.slice ao rs.length c, .slice ab bad.length cb].toArray w (Ret fun v w' => (∃ go N ps, v = .tuple #[.slice (some ⟨go, 0, none⟩) (k + 3) (k + 3), vi 0] ∧ OB w' 23 5 go N ps ∧ w.heap.size ≤ go ∧ RB (xss rs) bad k n (xss ps)) ∧ Chg Nob w w') := by
  replace hc := hc.old
  replace hb := hb.old
  have hw := Chg.refl Nob w
  have hn1 := hev.1
  refine Calls.of_WC Try.func19 rfl Try.ntmps19 (by simp) ?_
  refine WC.seq (WC.region (WL.assign rfl rfl (WL.assign rfl rfl (WL.nil (WX.then_normal (WC.seq (WC.region (?_))))))))
  refine WL.move rfl rfl (WL.move rfl rfl (?_))
  refine WL.call eg_38 rfl rfl (right_calls hc hb (by omega) (by omega)) ?_
  rintro v w1 ⟨rfl, k1⟩
  rw [he, if_pos rfl, hn]
  have zs_k1 := k1.size
  replace hc := hc.pure k1
  replace hb := hb.pure k1
  replace hw := hw.pure k1
  refine WL.move rfl rfl (WL.extract rfl rfl rfl (WL.extract rfl rfl rfl (WL.assign rfl rfl (WL.assign rfl rfl (WL.nil (WX.then_normal (WC.seq (?_))))))))
  refine WC.seq (WC.region (WL.move rfl rfl (?_)))
  refine WL.neqF rfl rfl rfl (by first | rfl | omega | decide) ?_
  refine WL.nil (WX.then_normal (WC.cond_false rfl (WC.skip (WX.then_normal (WC.seq (WC.region (WL.move rfl rfl (?_))))))))
  refine WL.len Try.underlying22 rfl rfl (?_)
  refine WL.sub64 rfl rfl (by constructor <;> omega) rfl ?_
  rw [show ((rs.length : Int) - 3) = (k : Int) from by omega]
  refine WL.assign rfl rfl (WL.nil (WX.then_normal (WC.seq (WC.region (WL.move rfl rfl (WL.len Try.underlying22 rfl rfl (?_)))))))
  refine WL.make (e := erow) ⟨none, 0, []⟩ (k + 3) (k + 3) Try.underlying22 info_23 rfl rfl rfl ⟨by show (rs.length : Int) = _; omega, by show (rs.length : Int) = _; omega, Nat.le_refl _⟩ (by constructor <;> omega) rfl ?_
  intro go wq hq kq zq ego
  rw [List.length_replicate]
  have zs_kq := kq.size
  replace hc := hc.pure kq
  replace hb := hb.pure kq
  replace hw := hw.pure kq
  refine WL.assign rfl rfl (WL.nil (WX.then_normal (WC.seq (WC.region (WL.assign rfl rfl (WL.nil (WX.then_normal (?_))))))))
  refine WC.seq (WC.seq (WC.region (WL.move rfl rfl (WL.len Try.underlying22 rfl rfl (WL.move rfl rfl (WL.nil (WX.then_normal (?_))))))))
  refine WC.block (?_)
  have zw0 := hw.size
  have hgo : w.heap.size ≤ go := by omega
  have hO : OB wq 23 5 go wq.heap.size (List.replicate (k + 3) ⟨none, 0, []⟩) := ⟨⟨(fun a ea => by injection ea with ea; subst ea; rfl), (by have h9 := hq.own; rw [List.length_replicate] at h9 ⊢; exact h9)⟩, (fun i r hr => .inl ((RI.start (xss rs) bad k n).nil i r hr (.inl (Nat.zero_le _)))), (fun i j r s g hr _ hg _ => by rw [(RI.start (xss rs) bad k n).nil i r hr (.inl (Nat.zero_le _))] at hg; cases hg), (by omega)⟩
  have hA : Row (fun b => w.heap.size ≤ b ∧ b ≠ go ∧ ∀ r ∈ (List.replicate (k + 3) (⟨none, 0, []⟩ : Rw)), r.ao ≠ some ⟨b, 0, none⟩) wq 3 ei none 0 (li (lostL (min 0 k) bad)) := by rw [Nat.zero_min]; exact Row.nil _ _ _ _
  refine WC.loop (σ := Nat × (Option Addr × Nat) × List Rw) (fun s => [(0, .slice ao rs.length c), (1, .slice ab bad.length cb), (6, vi n), (8, vi k), (9, .slice (some ⟨go, 0, none⟩) (k + 3) (k + 3)), (10, .slice s.2.1.1 (li (lostL (min s.1 k) bad)).length s.2.1.2), (32, .slice ao rs.length c), (33, vi rs.length), (34, vi s.1)])
    (fun s w' => s.1 ≤ rs.length ∧ RI (xss rs) bad k n s.1 s.2.2 ∧ OB w' 23 5 go w'.heap.size s.2.2 ∧ Row (fun b => w.heap.size ≤ b ∧ b ≠ go ∧ ∀ r ∈ s.2.2, r.ao ≠ some ⟨b, 0, none⟩) w' 3 ei s.2.1.1 s.2.1.2 (li (lostL (min s.1 k) bad)) ∧ RS (· < w.heap.size) w' ao c rs ∧ RSl (· < w.heap.size) w' ei ab cb bad ∧ Chg Nob w w') (fun s => rs.length - s.1) (0, (none, 0), List.replicate (k + 3) ⟨none, 0, []⟩) ⟨rfl, rfl, rfl, rfl, rfl, by show some (Value.slice none 0 0) = some (Value.slice none (li (lostL (min 0 k) bad)).length 0); rw [Nat.zero_min]; rfl, rfl, rfl, rfl, trivial⟩ ⟨Nat.zero_le _, RI.start _ _ _ _, hO, hA, hc, hb, hw⟩ ?_
  clear hO hA hq hc hb hw
  rintro ⟨i, ⟨al, cl⟩, rs1⟩ w2 ⟨hi, hI, hO, hA, hc, hb, hw⟩
  simp only at hi hI hO hA
  dsimp only
  replace hA := hA.lt
  have zw2 := hw.size
  obtain ⟨N2, hN2⟩ : ∃ N2, N2 = w2.heap.size := ⟨_, rfl⟩
  rw [← hN2] at hO hA
  have hNw : N2 ≤ w2.heap.size := by omega
  have hil := hI.len
  refine WC.seq (WC.region (?_))
  refine WL.lss? rfl rfl rfl (fun h35 => ?_) (fun h35 => ?_)
  ·
    refine WL.nil (WX.then_normal (WC.seq (WC.cond_true rfl (WC.skip (WX.then_normal (WC.seq (WC.block (?_))))))))
    refine WC.seq (WC.region (WL.move rfl rfl (?_)))
    obtain ⟨r, hr⟩ : ∃ r, rs[i]? = some r := ⟨_, List.getElem?_eq_getElem (by omega)⟩
    have hrx := xss_at hr
    refine WL.indexT Try.underlying22 Try.sizeOf23 hc.outer rfl rfl ⟨hr, rfl⟩ rfl ?_
    intro b_1 o_1 hc_1
    refine WL.load Try.isAgg23 rfl (hc_1 0 _ rfl) rfl (WL.assign rfl rfl (WL.assign rfl rfl (WL.nil (WX.then_normal (WC.block (WC.seq (WC.region (?_))))))))
    refine WL.move rfl rfl (WL.move rfl rfl (?_))
    refine WL.call eg_39 rfl rfl (contains_calls hb (by omega) _) ?_
    rintro v w3 ⟨rfl, k3⟩
    have zs_k3 := k3.size
    replace hO := hO.pure k3
    replace hA := hA.pure k3
    replace hc := hc.pure k3
    replace hb := hb.pure k3
    replace hw := hw.pure k3
    by_cases hbi : (i : Int) ∈ bad
    ·
      rw [decide_eq_true hbi]
      refine WL.not rfl rfl (WL.assign rfl rfl (WL.nil (WX.then_normal (WC.cond_false rfl (WC.seq (WC.region (WL.move rfl rfl (?_))))))))
      refine WL.move rfl rfl (?_)
      refine WL.lss? rfl rfl rfl (fun h52 => ?_) (fun h52 => ?_)
      ·
        refine WL.assign rfl rfl (WL.nil (WX.then_normal (WC.cond_true rfl (WC.seq (WC.region (WL.move rfl rfl (WL.move rfl rfl (?_))))))))
        refine WL.move rfl rfl (?_)
        refine WL.make (e := eb) (0 : UInt8) n n Try.underlying23 info_5 rfl rfl rfl ⟨rfl, rfl, Nat.le_refl _⟩ (by constructor <;> omega) rfl ?_
        intro g wg hg9 kg zg eg
        rw [List.length_replicate]
        have hg : Row (fun b => b = g) wg 5 eb (some ⟨g, 0, none⟩) n (List.replicate n 0) := ⟨(fun a ea => by injection ea with ea; subst ea; rfl), hg9.own⟩
        clear hg9
        have zs_kg := kg.size
        replace hO := hO.pure kg
        replace hA := hA.pure kg
        replace hc := hc.pure kg
        replace hb := hb.pure kg
        replace hw := hw.pure kg
        refine WL.index (sz := 1) (j := i) Try.underlying22 Try.sizeOf23 rfl rfl rfl (by omega) rfl ?_
        refine WL.storeRow (z := ⟨some ⟨g, 0, none⟩, n, List.replicate n 0⟩) i Try.sizeOf23 hO.outer rfl (by show [Value.slice (some ⟨g, 0, none⟩) (List.replicate n 0).length n] = _; rw [List.length_replicate]) rfl (by show 0 + i * 1 = i; omega) (by omega) rfl ?_
        intro w5 z5 ho5 k5
        have zk5 := k5.size
        have hgl : g < _ := hg.own.lt _ rfl
        have hO5 := (hO.put (by omega) (by omega) hg k5 ho5).up (N' := w5.heap.size) (by omega)
        have hI5 := hI.put (g := g) (cr := n) (xs := List.replicate n 0) (fun h => by omega) (by omega) (by rw [List.length_replicate]) (fun h => absurd hbi h) (fun _ => rfl)
        have hA5 := (hA.chg k5 (fun b _ h1 h2 => h1.1.2.1 h2)).mono (S' := fun b => w.heap.size ≤ b ∧ b ≠ go ∧ ∀ s ∈ rs1.set i ⟨some ⟨g, 0, none⟩, n, List.replicate n 0⟩, s.ao ≠ some ⟨b, 0, none⟩) (fun b h => ⟨h.1.1, h.1.2.1, fun s hs e => by
          rcases List.mem_or_eq_of_mem_set hs with h1 | h1
          ·
            exact h.1.2.2 s h1 e
          ·
            rw [h1] at e
            injection e with e
            injection e with e
            have := h.2
            omega⟩)
        replace hc := hc.chg k5 (fun b _ h1 h2 => by have h3 : b = go := h2; omega)
        replace hb := hb.chg k5 (fun b _ h1 h2 => by have h3 : b = go := h2; omega)
        replace hw := hw.chg k5 (fun x h0 h2 => by have h3 : x = go := h2; omega)
        refine WL.nil (WX.then_normal (WC.region (WL.move rfl rfl (WL.move rfl rfl (?_)))))
        refine WL.build (e := ei) [(i : Int)] Try.underlying33 Try.sizeOf3 Try.zeroValue3 rfl rfl rfl (by first | (simp [Value.cells]; done) | (simp [Value.cells] <;> rfl) | (simp [Value.cells, eb, ei, es, ebool, e32, e64]; done)) (by decide) rfl ?_
        intro a_qn w_qn qn l_qn z_qn k_qn
        have zs_k_qn := k_qn.size
        replace hc := hc.pure k_qn
        replace hb := hb.pure k_qn
        replace hw := hw.pure k_qn
        replace hO5 := hO5.pure k_qn
        replace hA5 := hA5.pure k_qn
        have hlo5 := hO5.lo
        have hll : (li (lostL (min i k) bad)).length ≤ 16 := by
          rw [li_len, lostL]
          exact Nat.le_trans (List.length_filter_le _ _) (by rw [List.length_range]; omega)
        refine WL.append (e := ei) (xs := li (lostL (min i k) bad)) (S := fun b => w.heap.size ≤ b ∧ b ≠ go ∧ ∀ s ∈ rs1.set i ⟨some ⟨g, 0, none⟩, n, List.replicate n 0⟩, s.ao ≠ some ⟨b, 0, none⟩) info_3 rfl Try.underlying33 rfl rfl hA5 (qn.rsl.src Try.underlying33) (by constructor <;> (simp only [List.length_cons, List.length_nil]; omega)) (fun b hb => ⟨by omega, by omega, fun s hs e => by obtain ⟨j, hj⟩ := List.getElem?_of_mem hs; have := (hO5.at hj e).1; omega⟩) rfl ?_
        intro a9 c9 w9 hA9 g9 n9
        have k9 := g9.chg
        have zk9 := k9.size
        have hO9 := (hO5.chg2 k9 (fun h => h.2.2.1 rfl) (fun s hs gg e h => h.2.2.2 s hs e)).up (N' := w9.heap.size) (by omega)
        replace hc := hc.chg k9 (fun b _ h1 h2 => by have := h2.2.1; omega)
        replace hb := hb.chg k9 (fun b _ h1 h2 => by have := h2.2.1; omega)
        replace hw := hw.chg k9 (fun x h0 h2 => by have := h2.2.1; omega)
        have e9 : li (lostL (min i k) bad) ++ [(i : Int)] = li (lostL (min (i + 1) k) bad) := by
          rw [Nat.min_eq_left (by omega), Nat.min_eq_left (by omega), lost_next, if_pos hbi, li_app]
          rfl
        rw [e9] at hA9 ⊢
        refine WL.assign rfl rfl (WL.nil (WX.block_normal (WX.block_normal (WX.then_normal (WC.region (WL.add64 rfl rfl (by first | omega | (constructor <;> omega)) rfl (WL.move rfl rfl (?_))))))))
        refine WL.nil (?_)
        first
          | (have hle : lostL (min (i + 1) k) bad = lostL (min i k) bad := by
               rcases Nat.lt_or_ge i k with h | h
               ·
                 rw [Nat.min_eq_left (by omega), Nat.min_eq_left (by omega), lost_next, if_neg hbi, List.append_nil]
               ·
                 rw [Nat.min_eq_right (by omega), Nat.min_eq_right (by omega)]
             rw [← hle] at hA5 ⊢
             exact WX.loop_next (i + 1, (al, cl), rs1.set i ⟨some ⟨g, 0, none⟩, cg, r.xs⟩) ⟨rfl, rfl, rfl, rfl, rfl, rfl, rfl, rfl, rfl, trivial⟩ ⟨by show i + 1 ≤ _; omega, hI5, hO5, hA5, hc, hb, hw⟩ (by show rs.length - (i + 1) < rs.length - i; omega))
          | exact WX.loop_next (q + 1, rs4.set (k + q) ⟨some ⟨g, 0, none⟩, n, x⟩) ⟨rfl, rfl, rfl, rfl, rfl, trivial⟩ ⟨by show q + 1 ≤ 3; omega, hFI5, hO5, hP5, hw⟩ (by show 3 - (q + 1) < 3 - q; omega)
          | exact WX.loop_next (q + 1, rs4) ⟨rfl, rfl, rfl, rfl, rfl, trivial⟩ ⟨by show q + 1 ≤ 3; omega, hFI.skip hbq, hO4, hP, hw⟩ (by show 3 - (q + 1) < 3 - q; omega)
          | exact WX.loop_next (i + 1, (a9, c9), rs1.set i ⟨some ⟨g, 0, none⟩, n, List.replicate n 0⟩) ⟨rfl, rfl, rfl, rfl, rfl, rfl, rfl, rfl, rfl, trivial⟩ ⟨by show i + 1 ≤ _; omega, hI5, hO9, hA9, hc, hb, hw⟩ (by show rs.length - (i + 1) < rs.length - i; omega)
          | (have hle : lostL (min (i + 1) k) bad = lostL (min i k) bad := by
               rw [Nat.min_eq_right (by omega), Nat.min_eq_right (by omega)]
             have hA5 := hA.mono (S' := fun b => w.heap.size ≤ b ∧ b ≠ go ∧ ∀ s ∈ rs1, s.ao ≠ some ⟨b, 0, none⟩) (fun b h => h.1)
             rw [← hle] at hA5 ⊢
             exact WX.loop_next (i + 1, (al, cl), rs1) ⟨rfl, rfl, rfl, rfl, rfl, rfl, rfl, rfl, rfl, trivial⟩ ⟨by show i + 1 ≤ _; omega, hI.skip ⟨by omega, hbi⟩, hO.up (by omega), hA5, hc, hb, hw⟩ (by show rs.length - (i + 1) < rs.length - i; omega))
      ·
        refine WL.assign rfl rfl (WL.nil (WX.then_normal (WC.cond_false rfl (WC.skip (WX.block_normal (WX.block_normal (WX.then_normal (?_))))))))
        refine WC.region (WL.add64 rfl rfl (by first | omega | (constructor <;> omega)) rfl (WL.move rfl rfl (WL.nil (?_))))
        first
          | (have hle : lostL (min (i + 1) k) bad = lostL (min i k) bad := by
               rcases Nat.lt_or_ge i k with h | h
               ·
                 rw [Nat.min_eq_left (by omega), Nat.min_eq_left (by omega), lost_next, if_neg hbi, List.append_nil]
               ·
                 rw [Nat.min_eq_right (by omega), Nat.min_eq_right (by omega)]
             rw [← hle] at hA5 ⊢
             exact WX.loop_next (i + 1, (al, cl), rs1.set i ⟨some ⟨g, 0, none⟩, cg, r.xs⟩) ⟨rfl, rfl, rfl, rfl, rfl, rfl, rfl, rfl, rfl, trivial⟩ ⟨by show i + 1 ≤ _; omega, hI5, hO5, hA5, hc, hb, hw⟩ (by show rs.length - (i + 1) < rs.length - i; omega))
          | exact WX.loop_next (q + 1, rs4.set (k + q) ⟨some ⟨g, 0, none⟩, n, x⟩) ⟨rfl, rfl, rfl, rfl, rfl, trivial⟩ ⟨by show q + 1 ≤ 3; omega, hFI5, hO5, hP5, hw⟩ (by show 3 - (q + 1) < 3 - q; omega)
          | exact WX.loop_next (q + 1, rs4) ⟨rfl, rfl, rfl, rfl, rfl, trivial⟩ ⟨by show q + 1 ≤ 3; omega, hFI.skip hbq, hO4, hP, hw⟩ (by show 3 - (q + 1) < 3 - q; omega)
          | exact WX.loop_next (i + 1, (a9, c9), rs1.set i ⟨some ⟨g, 0, none⟩, n, List.replicate n 0⟩) ⟨rfl, rfl, rfl, rfl, rfl, rfl, rfl, rfl, rfl, trivial⟩ ⟨by show i + 1 ≤ _; omega, hI5, hO9, hA9, hc, hb, hw⟩ (by show rs.length - (i + 1) < rs.length - i; omega)
          | (have hle : lostL (min (i + 1) k) bad = lostL (min i k) bad := by
               rw [Nat.min_eq_right (by omega), Nat.min_eq_right (by omega)]
             have hA5 := hA.mono (S' := fun b => w.heap.size ≤ b ∧ b ≠ go ∧ ∀ s ∈ rs1, s.ao ≠ some ⟨b, 0, none⟩) (fun b h => h.1)
             rw [← hle] at hA5 ⊢
             exact WX.loop_next (i + 1, (al, cl), rs1) ⟨rfl, rfl, rfl, rfl, rfl, rfl, rfl, rfl, rfl, trivial⟩ ⟨by show i + 1 ≤ _; omega, hI.skip ⟨by omega, hbi⟩, hO.up (by omega), hA5, hc, hb, hw⟩ (by show rs.length - (i + 1) < rs.length - i; omega))
    ·
      have hrl : r.xs.length = n := hev.2.2 i r.xs hrx hbi
      rw [decide_eq_false hbi]
      refine WL.not rfl rfl (WL.assign rfl rfl (WL.nil (WX.then_normal (WC.cond_true rfl (WC.region (WL.move rfl rfl (WL.move rfl rfl (?_))))))))
      refine WL.move rfl rfl (?_)
      refine WL.call eg_40 rfl rfl (bclone_calls (hc.at hr) (by omega) (by omega)) ?_
      rintro v w4 ⟨⟨g, cg, rfl, hg, hgN⟩, k4⟩
      have zs_k4 := k4.size
      replace hO := hO.pure k4
      replace hA := hA.pure k4
      replace hc := hc.pure k4
      replace hb := hb.pure k4
      replace hw := hw.pure k4
      refine WL.index (sz := 1) (j := i) Try.underlying22 Try.sizeOf23 rfl rfl rfl (by omega) rfl ?_
      refine WL.storeRow (z := ⟨some ⟨g, 0, none⟩, cg, r.xs⟩) i Try.sizeOf23 hO.outer rfl rfl rfl (by show 0 + i * 1 = i; omega) (by omega) rfl ?_
      intro w5 z5 ho5 k5
      have zk5 := k5.size
      have hgl : g < _ := hg.own.lt _ rfl
      have hO5 := (hO.put (by omega) (by omega) hg k5 ho5).up (N' := w5.heap.size) (by omega)
      have hI5 := hI.put (g := g) (cr := cg) (xs := r.xs) (fun h => hbi h.2) (by omega) hrl (fun _ => hrx) (fun h => absurd h hbi)
      have hA5 := (hA.chg k5 (fun b _ h1 h2 => h1.1.2.1 h2)).mono (S' := fun b => w.heap.size ≤ b ∧ b ≠ go ∧ ∀ s ∈ rs1.set i ⟨some ⟨g, 0, none⟩, cg, r.xs⟩, s.ao ≠ some ⟨b, 0, none⟩) (fun b h => ⟨h.1.1, h.1.2.1, fun s hs e => by
        rcases List.mem_or_eq_of_mem_set hs with h1 | h1
        ·
          exact h.1.2.2 s h1 e
        ·
          rw [h1] at e
          injection e with e
          injection e with e
          have := h.2
          omega⟩)
      replace hc := hc.chg k5 (fun b _ h1 h2 => by have h3 : b = go := h2; omega)
      replace hb := hb.chg k5 (fun b _ h1 h2 => by have h3 : b = go := h2; omega)
      replace hw := hw.chg k5 (fun x h0 h2 => by have h3 : x = go := h2; omega)
      refine WL.nil (WX.block_normal (WX.block_normal (WX.then_normal (WC.region (WL.add64 rfl rfl (by first | omega | (constructor <;> omega)) rfl (WL.move rfl rfl (WL.nil (?_))))))))
      first
        | (have hle : lostL (min (i + 1) k) bad = lostL (min i k) bad := by
             rcases Nat.lt_or_ge i k with h | h
             ·
               rw [Nat.min_eq_left (by omega), Nat.min_eq_left (by omega), lost_next, if_neg hbi, List.append_nil]
             ·
               rw [Nat.min_eq_right (by omega), Nat.min_eq_right (by omega)]
           rw [← hle] at hA5 ⊢
           exact WX.loop_next (i + 1, (al, cl), rs1.set i ⟨some ⟨g, 0, none⟩, cg, r.xs⟩) ⟨rfl, rfl, rfl, rfl, rfl, rfl, rfl, rfl, rfl, trivial⟩ ⟨by show i + 1 ≤ _; omega, hI5, hO5, hA5, hc, hb, hw⟩ (by show rs.length - (i + 1) < rs.length - i; omega))
        | exact WX.loop_next (q + 1, rs4.set (k + q) ⟨some ⟨g, 0, none⟩, n, x⟩) ⟨rfl, rfl, rfl, rfl, rfl, trivial⟩ ⟨by show q + 1 ≤ 3; omega, hFI5, hO5, hP5, hw⟩ (by show 3 - (q + 1) < 3 - q; omega)
        | exact WX.loop_next (q + 1, rs4) ⟨rfl, rfl, rfl, rfl, rfl, trivial⟩ ⟨by show q + 1 ≤ 3; omega, hFI.skip hbq, hO4, hP, hw⟩ (by show 3 - (q + 1) < 3 - q; omega)
        | exact WX.loop_next (i + 1, (a9, c9), rs1.set i ⟨some ⟨g, 0, none⟩, n, List.replicate n 0⟩) ⟨rfl, rfl, rfl, rfl, rfl, rfl, rfl, rfl, rfl, trivial⟩ ⟨by show i + 1 ≤ _; omega, hI5, hO9, hA9, hc, hb, hw⟩ (by show rs.length - (i + 1) < rs.length - i; omega)
        | (have hle : lostL (min (i + 1) k) bad = lostL (min i k) bad := by
             rw [Nat.min_eq_right (by omega), Nat.min_eq_right (by omega)]
           have hA5 := hA.mono (S' := fun b => w.heap.size ≤ b ∧ b ≠ go ∧ ∀ s ∈ rs1, s.ao ≠ some ⟨b, 0, none⟩) (fun b h => h.1)
           rw [← hle] at hA5 ⊢
           exact WX.loop_next (i + 1, (al, cl), rs1) ⟨rfl, rfl, rfl, rfl, rfl, rfl, rfl, rfl, rfl, trivial⟩ ⟨by show i + 1 ≤ _; omega, hI.skip ⟨by omega, hbi⟩, hO.up (by omega), hA5, hc, hb, hw⟩ (by show rs.length - (i + 1) < rs.length - i; omega))
  ·
    refine WL.nil (WX.then_normal (WC.seq (WC.cond_false rfl (WC.exit (WX.then_exit (WX.then_exit (WX.block_here (?_))))))))
    refine WX.then_normal (WC.seq (WC.region (?_)))
    refine WL.bld rfl bldF rfl ?_
    have him : i = rs.length := by omega
    refine WL.box rfl rfl ?_
    intro gx wx hgex hltx hbx kx
    have zs_kx := kx.size
    replace hO := hO.pure kx
    replace hA := hA.pure kx
    replace hc := hc.pure kx
    replace hb := hb.pure kx
    replace hw := hw.pure kx
    refine WL.assign rfl rfl (WL.nil (WX.then_normal (WC.seq (WC.seq (WC.region (WL.move rfl rfl (WL.move rfl rfl (?_))))))))
    refine WL.move rfl rfl (WL.move rfl rfl (WL.move rfl rfl (?_)))
    have emk : min i k = k := Nat.min_eq_right (by omega)
    rw [emk] at hA ⊢
    have hOx := hO.up (N' := gx) (by omega)
    have hLx : RSl (Off rs1 go gx) _ ei al cl (li (lostL k bad)) := hA.rsl.mono (fun b h => ⟨by have := h.2; omega, h.1.2.1, h.1.2.2⟩)
    have hh := heal_calls (.inl hbx) hOx hLx hk1 hil (by omega) hb3 (fun j r h1 h2 h3 => hI.nil j r h1 (.inr ⟨h2, h3⟩)) (fun j r h1 h2 => hI.real j r h1 (by have := (List.getElem?_eq_some_iff.1 h1).1; omega) h2) (fun j r h1 h2 => hI.zero j r h1 (by have := (List.getElem?_eq_some_iff.1 h1).1; omega) (lost_mem.1 h2).1 (lost_mem.1 h2).2)
    rw [hil] at hh
    refine WL.call eg_41 rfl rfl (hh) ?_
    rintro v w7 ⟨rfl, ⟨rs3, hH, hO3⟩, hF7, k7⟩
    have hl3 : rs3.length = k + 3 := by rw [hH.len]; exact hil
    replace hw := hw.chg k7 (fun x h0 h1 => by have h3 : go ≤ x := h1; omega)
    refine WL.assign rfl rfl (WL.nil (WX.then_normal (WC.seq (WC.region (WL.move rfl rfl (?_))))))
    refine WL.neqF rfl rfl rfl (by first | rfl | omega | decide) ?_
    refine WL.nil (WX.then_normal (WC.cond_false rfl (WC.skip (WX.then_normal (WC.seq (WC.seq (WC.region (?_))))))))
    refine WL.move rfl rfl (WL.move rfl rfl (WL.move rfl rfl (?_)))
    have hOr := hO3.toRS (S := fun b => b < gx) (fun x _ h => h)
    refine WL.slice (e := erow) (xs := rs3) (l := 0) (h := k) (k := .i64) (j := .i64) Try.underlying22 Try.sizeOf23 hOr.outer (by show some (Value.slice _ (k + 3) (k + 3)) = some (Value.slice _ rs3.length rs3.length); rw [hl3]) (.inr ⟨rfl, rfl⟩) (.inl rfl) ⟨Nat.zero_le _, by omega⟩ rfl ?_
    intro az cz hz1 nz
    refine WL.move rfl rfl (?_)
    have hcc : RS (fun b => b < gx) _ az cz ((rs3.take k).drop 0) := ⟨hz1, fun r h => hOr.inner r (List.mem_of_mem_take (List.mem_of_mem_drop h))⟩
    have hlk : ((rs3.take k).drop 0).length = k := by simp; omega
    have hgx7 := hF7.lt
    have hlo3 := hO3.lo
    have hblk3 : ∀ (j : Nat) (r : Rw) (g' : Nat), rs3[j]? = some r → r.ao = some ⟨g', 0, none⟩ → g' < gx := fun j r g' h1 h2 => (hO3.at h1 h2).1.2
    have hal : ∀ d ∈ xss ((rs3.take k).drop 0), d.length = n := fun d hd => by
      obtain ⟨j, hj⟩ := List.getElem?_of_mem hd
      have hjk : j < k := by have := (List.getElem?_eq_some_iff.1 hj).1; rw [xss_len, hlk] at this; exact this
      rw [xss_take, List.getElem?_take_of_lt hjk, xss, List.getElem?_map] at hj
      obtain ⟨r3, hr3⟩ : ∃ r3, rs3[j]? = some r3 := ⟨_, List.getElem?_eq_getElem (by omega)⟩
      rw [hr3] at hj
      injection hj with hj
      obtain ⟨r1, hr1, _, _, h5, _⟩ := hH.back hr3
      obtain ⟨_, _, h6⟩ := hI.real j r1 hr1 (by omega) (fun h => by omega)
      rw [← hj, h5, h6]
    refine WL.call eg_42 rfl rfl (sums_calls hF7 hcc (by omega) (by omega) hal) ?_
    rintro v w8 ⟨⟨g2, gs, rfl, hP, hgs3, hg2⟩, k8⟩
    obtain ⟨PP, hPP⟩ : ∃ PP, PP = three (xss ((rs3.take k).drop 0)) n ((rs3.take k).drop 0).length := ⟨_, rfl⟩
    rw [← hPP] at hP
    have hol : (orows gs n PP).length = 3 := by rw [orows_len hP.len, hgs3]
    have zk8 := k8.size
    have hg2l := hP.lto
    have hpx0 : ∀ q, q < 3 → ∃ g x, gs[q]? = some g ∧ (orows gs n PP)[q]? = some ⟨some ⟨g, 0, none⟩, n, x⟩ ∧ PP[q]? = some x ∧ g2 < g ∧ g < w8.heap.size := fun q hq => by
      obtain ⟨g, hg⟩ : ∃ g, gs[q]? = some g := ⟨_, List.getElem?_eq_getElem (by omega)⟩
      obtain ⟨x, hx⟩ : ∃ x, PP[q]? = some x := ⟨_, List.getElem?_eq_getElem (by rw [← hP.len, hgs3]; exact hq)⟩
      refine ⟨g, x, hg, ?_, hx, hP.above q g hg, hP.lt hg⟩
      have := orows_at (tl := []) (n := n) hg hx
      rwa [List.append_nil] at this
    replace hO3 := hO3.chg k8 (fun x _ h1 h2 => by have h3 : gx ≤ x := h2; omega)
    replace hw := hw.chg k8 (fun x h0 h1 => by have h3 : gx ≤ x := h1; omega)
    refine WL.len Try.underlying22 rfl rfl (WL.move rfl rfl (WL.nil (WX.then_normal (WC.block (?_)))))
    have hO4 := hO3.up (N' := w8.heap.size) (by omega)
    refine WC.loop (σ := Nat × List Rw) (fun s => [(8, vi k), (9, .slice (some ⟨go, 0, none⟩) (k + 3) (k + 3)), (79, .slice (some ⟨g2, 0, none⟩) 3 3), (80, vi 3), (81, vi s.1)])
      (fun s w' => s.1 ≤ 3 ∧ FI rs3 (orows gs n PP) bad k s.1 s.2 ∧ OB w' 23 5 go w8.heap.size s.2 ∧ OR w' 23 5 g2 3 gs n PP [] ∧ Chg Nob w w') (fun s => 3 - s.1) (0, rs3) ⟨rfl, rfl, rfl, rfl, rfl, trivial⟩ ⟨Nat.zero_le _, FI.start _ _ hl3, hO4, hP, hw⟩ ?_
    clear hO4 hO3 hP hw
    rintro ⟨q, rs4⟩ w9 ⟨hq, hFI, hO4, hP, hw⟩
    simp only at hq hFI hO4
    dsimp only
    refine WC.seq (WC.region (?_))
    refine WL.lss? rfl rfl rfl (fun h82 => ?_) (fun h82 => ?_)
    ·
      refine WL.nil (WX.then_normal (WC.seq (WC.cond_true rfl (WC.skip (WX.then_normal (WC.seq (WC.block (?_))))))))
      refine WC.seq (WC.region (WL.move rfl rfl (?_)))
      obtain ⟨g, x, hgq, hpx, hPx, hg2g, hg8⟩ := hpx0 q (by omega)
      have hPr := hP.outer.rsl
      rw [List.append_nil] at hPr
      refine WL.indexT (e := erow) Try.underlying22 Try.sizeOf23 hPr (by show some (Value.slice _ 3 3) = some (Value.slice _ (orows gs n PP).length 3); rw [hol]) rfl ⟨hpx, rfl⟩ rfl ?_
      intro bb oo hcc8
      refine WL.load Try.isAgg23 rfl (hcc8 0 _ rfl) rfl ?_
      refine WL.assign rfl rfl (WL.assign rfl rfl (WL.nil (WX.then_normal (WC.seq (WC.region (WL.move rfl rfl (WL.move rfl rfl (?_))))))))
      refine WL.move rfl rfl (?_)
      refine WL.add64 rfl rfl (by constructor <;> omega) rfl ?_
      rw [show ((k : Int) + (q : Int)) = ((k + q : Nat) : Int) from by omega]
      obtain ⟨r4, hr4⟩ : ∃ r, rs4[k + q]? = some r := ⟨_, List.getElem?_eq_getElem (by rw [hFI.len]; omega)⟩
      have hr43 : rs3[k + q]? = some r4 := by rw [← hr4, hFI.par q (by omega), if_neg (by omega)]
      obtain ⟨r1, hr1, hao1, _, _, _⟩ := hH.back hr43
      refine WL.indexT (e := erow) Try.underlying22 Try.sizeOf23 hO4.outer.rsl (by show some (Value.slice _ (k + 3) (k + 3)) = some (Value.slice _ rs4.length rs4.length); rw [hFI.len]) rfl ⟨hr4, rfl⟩ rfl ?_
      intro bb oo hcc9
      refine WL.load Try.isAgg23 rfl (hcc9 0 _ rfl) rfl ?_
      refine WL.isNil Try.underlying23 rfl rfl rfl ?_
      by_cases hbq : ((k + q : Nat) : Int) ∈ bad
      ·
        rw [show r4.ao.isNone = true from by rw [hao1, hI.nil (k + q) r1 hr1 (.inr ⟨by omega, hbq⟩)]; rfl]
        refine WL.nil (WX.then_normal (WC.cond_true rfl (WC.region (WL.move rfl rfl (WL.move rfl rfl (WL.move rfl rfl (?_)))))))
        refine WL.add64 rfl rfl (by constructor <;> omega) rfl ?_
        rw [show ((k : Int) + (q : Int)) = ((k + q : Nat) : Int) from by omega]
        refine WL.move rfl rfl (?_)
        refine WL.index (sz := 1) (j := k + q) Try.underlying22 Try.sizeOf23 rfl rfl rfl (by omega) rfl ?_
        have hfil := hFI.len
        refine WL.storeRow (z := ⟨some ⟨g, 0, none⟩, n, x⟩) (k + q) Try.sizeOf23 hO4.outer rfl rfl rfl (by show 0 + (k + q) * 1 = k + q; omega) (by omega) rfl ?_
        intro w5 z5 ho5 k5
        have hO5 := hO4.put2 (by omega) ⟨by omega, hg8⟩ (fun r hr e => by
          obtain ⟨j, hj⟩ := List.getElem?_of_mem hr
          have hjl := (List.getElem?_eq_some_iff.1 hj).1
          rcases Nat.lt_or_ge j k with h1 | h1
          ·
            rw [hFI.low j h1] at hj
            have := hblk3 j r g hj e
            omega
          ·
            obtain ⟨q', rfl⟩ : ∃ q', j = k + q' := ⟨j - k, by omega⟩
            rw [hFI.par q' (by omega)] at hj
            split at hj
            ·
              rename_i h2
              obtain ⟨g', x', hg', hp', _, _, _⟩ := hpx0 q' (by omega)
              rw [hp'] at hj
              injection hj with hj
              rw [← hj] at e
              injection e with e
              injection e with e
              subst e
              have := hP.apart q' q _ hg' hgq
              omega
            ·
              have := hblk3 _ r g hj e
              omega) (hP.inner q g x hgq hPx) k5 ho5
        have hP5 := hP.chg k5 ⟨fun h => by have h3 : g2 = go := h; omega, fun i' g' h1 h => by have h3 : g' = go := h; have := hP.above i' g' h1; omega⟩
        replace hw := hw.chg k5 (fun x h0 h1 => by have h3 : x = go := h1; omega)
        have hFI5 := hFI.put hbq (by omega) hpx
        refine WL.nil (WX.block_normal (WX.then_normal (WC.region (WL.add64 rfl rfl (by first | omega | (constructor <;> omega)) rfl (WL.move rfl rfl (WL.nil (?_)))))))
        first
          | (have hle : lostL (min (i + 1) k) bad = lostL (min i k) bad := by
               rcases Nat.lt_or_ge i k with h | h
               ·
                 rw [Nat.min_eq_left (by omega), Nat.min_eq_left (by omega), lost_next, if_neg hbi, List.append_nil]
               ·
                 rw [Nat.min_eq_right (by omega), Nat.min_eq_right (by omega)]
             rw [← hle] at hA5 ⊢
             exact WX.loop_next (i + 1, (al, cl), rs1.set i ⟨some ⟨g, 0, none⟩, cg, r.xs⟩) ⟨rfl, rfl, rfl, rfl, rfl, rfl, rfl, rfl, rfl, trivial⟩ ⟨by show i + 1 ≤ _; omega, hI5, hO5, hA5, hc, hb, hw⟩ (by show rs.length - (i + 1) < rs.length - i; omega))
          | exact WX.loop_next (q + 1, rs4.set (k + q) ⟨some ⟨g, 0, none⟩, n, x⟩) ⟨rfl, rfl, rfl, rfl, rfl, trivial⟩ ⟨by show q + 1 ≤ 3; omega, hFI5, hO5, hP5, hw⟩ (by show 3 - (q + 1) < 3 - q; omega)
          | exact WX.loop_next (q + 1, rs4) ⟨rfl, rfl, rfl, rfl, rfl, trivial⟩ ⟨by show q + 1 ≤ 3; omega, hFI.skip hbq, hO4, hP, hw⟩ (by show 3 - (q + 1) < 3 - q; omega)
          | exact WX.loop_next (i + 1, (a9, c9), rs1.set i ⟨some ⟨g, 0, none⟩, n, List.replicate n 0⟩) ⟨rfl, rfl, rfl, rfl, rfl, rfl, rfl, rfl, rfl, trivial⟩ ⟨by show i + 1 ≤ _; omega, hI5, hO9, hA9, hc, hb, hw⟩ (by show rs.length - (i + 1) < rs.length - i; omega)
          | (have hle : lostL (min (i + 1) k) bad = lostL (min i k) bad := by
               rw [Nat.min_eq_right (by omega), Nat.min_eq_right (by omega)]
             have hA5 := hA.mono (S' := fun b => w.heap.size ≤ b ∧ b ≠ go ∧ ∀ s ∈ rs1, s.ao ≠ some ⟨b, 0, none⟩) (fun b h => h.1)
             rw [← hle] at hA5 ⊢
             exact WX.loop_next (i + 1, (al, cl), rs1) ⟨rfl, rfl, rfl, rfl, rfl, rfl, rfl, rfl, rfl, trivial⟩ ⟨by show i + 1 ≤ _; omega, hI.skip ⟨by omega, hbi⟩, hO.up (by omega), hA5, hc, hb, hw⟩ (by show rs.length - (i + 1) < rs.length - i; omega))
      ·
        obtain ⟨gq, hgq4, _⟩ := hI.real (k + q) r1 hr1 (by omega) (fun h => hbq h.2)
        rw [show r4.ao.isNone = false from by rw [hao1, hgq4]; rfl]
        refine WL.nil (WX.then_normal (WC.cond_false rfl (WC.skip (WX.block_normal (WX.then_normal (WC.region (WL.add64 rfl rfl (by first | omega | (constructor <;> omega)) rfl (?_))))))))
        refine WL.move rfl rfl (WL.nil (?_))
        first
          | (have hle : lostL (min (i + 1) k) bad = lostL (min i k) bad := by
               rcases Nat.lt_or_ge i k with h | h
               ·
                 rw [Nat.min_eq_left (by omega), Nat.min_eq_left (by omega), lost_next, if_neg hbi, List.append_nil]
               ·
                 rw [Nat.min_eq_right (by omega), Nat.min_eq_right (by omega)]
             rw [← hle] at hA5 ⊢
             exact WX.loop_next (i + 1, (al, cl), rs1.set i ⟨some ⟨g, 0, none⟩, cg, r.xs⟩) ⟨rfl, rfl, rfl, rfl, rfl, rfl, rfl, rfl, rfl, trivial⟩ ⟨by show i + 1 ≤ _; omega, hI5, hO5, hA5, hc, hb, hw⟩ (by show rs.length - (i + 1) < rs.length - i; omega))
          | exact WX.loop_next (q + 1, rs4.set (k + q) ⟨some ⟨g, 0, none⟩, n, x⟩) ⟨rfl, rfl, rfl, rfl, rfl, trivial⟩ ⟨by show q + 1 ≤ 3; omega, hFI5, hO5, hP5, hw⟩ (by show 3 - (q + 1) < 3 - q; omega)
          | exact WX.loop_next (q + 1, rs4) ⟨rfl, rfl, rfl, rfl, rfl, trivial⟩ ⟨by show q + 1 ≤ 3; omega, hFI.skip hbq, hO4, hP, hw⟩ (by show 3 - (q + 1) < 3 - q; omega)
          | exact WX.loop_next (i + 1, (a9, c9), rs1.set i ⟨some ⟨g, 0, none⟩, n, List.replicate n 0⟩) ⟨rfl, rfl, rfl, rfl, rfl, rfl, rfl, rfl, rfl, trivial⟩ ⟨by show i + 1 ≤ _; omega, hI5, hO9, hA9, hc, hb, hw⟩ (by show rs.length - (i + 1) < rs.length - i; omega)
          | (have hle : lostL (min (i + 1) k) bad = lostL (min i k) bad := by
               rw [Nat.min_eq_right (by omega), Nat.min_eq_right (by omega)]
             have hA5 := hA.mono (S' := fun b => w.heap.size ≤ b ∧ b ≠ go ∧ ∀ s ∈ rs1, s.ao ≠ some ⟨b, 0, none⟩) (fun b h => h.1)
             rw [← hle] at hA5 ⊢
             exact WX.loop_next (i + 1, (al, cl), rs1) ⟨rfl, rfl, rfl, rfl, rfl, rfl, rfl, rfl, rfl, trivial⟩ ⟨by show i + 1 ≤ _; omega, hI.skip ⟨by omega, hbi⟩, hO.up (by omega), hA5, hc, hb, hw⟩ (by show rs.length - (i + 1) < rs.length - i; omega))
    ·
      refine WL.nil (WX.then_normal (WC.seq (WC.cond_false rfl (WC.exit (WX.then_exit (WX.then_exit (WX.block_here (?_))))))))
      refine WX.then_normal (WC.seq (WC.region (WL.move rfl rfl (WL.assign rfl rfl (WL.assign rfl rfl (WL.nil (WX.then_normal (?_))))))))
      refine WC.ret (?_)
      refine WX.ret2 (.inl rfl) Try.results19 rfl rfl ?_
      have hq3 : q = 3 := by omega
      subst hq3
      refine ⟨_, rfl, ⟨go, _, rs4, rfl, hO4, hgo, ?_⟩, hw⟩
      have hI2 := hI
      rw [show i = k + 3 by omega] at hI2
      refine rb_fin hI2 hH hFI.len hFI.low (fun q' h1 h2 => by rw [hFI.par q' h1, if_neg (fun h => h2 h.2)]) (fun q' h1 h2 => ?_)
      obtain ⟨g', x', hg', hp', hx', _, _⟩ := hpx0 q' h1
      refine ⟨_, by rw [hFI.par q' h1, if_pos ⟨h1, h2⟩]; exact hp', ?_⟩
      rw [hPP, three_at h1] at hx'
      injection hx' with hx'
      have htk : (xss rs3).take k = (xss rs4).take k := by
        apply List.ext_getElem?
        intro j
        rcases Nat.lt_or_ge j k with h3 | h3
        ·
          rw [List.getElem?_take_of_lt h3, List.getElem?_take_of_lt h3, xss, xss, List.getElem?_map, List.getElem?_map, hFI.low j h3]
        ·
          rw [List.getElem?_eq_none (by rw [List.length_take]; omega), List.getElem?_eq_none (by rw [List.length_take]; omega)]
      rw [← hx', hlk, xss_take, htk]
end Go.Proofs.Ytjdbjdgobhjbkaa
/-! plain: which errors Rebuild answers for whole columns -/
namespace Go.HL
open Go.RowKit
theorem even_nil {ys : List (List UInt8)} {n : Nat} (hne : 1 ≤ ys.length) (hall : ∀ y ∈ ys, y.length = n) (hn : 1 ≤ n ∧ n ≤ 4096) : EvenB ys [] n := by
  obtain ⟨y, hy⟩ : ∃ y, ys[0]? = some y := ⟨_, List.getElem?_eq_getElem (by omega)⟩
  exact ⟨hn, ⟨0, y, hy, by simp⟩, fun j x hx _ => hall x (List.mem_of_getElem? hx)⟩
theorem err_nil {ys : List (List UInt8)} {n : Nat} (h4 : 4 ≤ ys.length ∧ ys.length ≤ 16) (hall : ∀ y ∈ ys, y.length = n) (hn : 1 ≤ n ∧ n ≤ 4096) : errB ys [] = 0 := by
  rw [errB_ok h4 (fun i b h => by cases h) (by rw [lenB_of (even_nil (by omega) hall hn)]; omega), if_pos (by decide)]
theorem err_past (ys : List (List UInt8)) : errB ys [(ys.length : Int)] = 1 := errB_bad (OkBad.no (i := 0) rfl (by omega))
theorem err_turned (ys : List (List UInt8)) : errB ys [1, 0] = 1 := errB_bad (OkBad.no2 (i := 1) (b := 0) (c := 1) rfl rfl (by decide) (by decide))
theorem err_four {ys : List (List UInt8)} {n : Nat} (h4 : 4 ≤ ys.length ∧ ys.length ≤ 16) (hall : ∀ y ∈ ys, y.length = n) (hn : 1 ≤ n ∧ n ≤ 4096) : errB ys [0, 1, 2, 3] = if ys.length = 4 then 1 else 4 := by
  by_cases h : ys.length = 4
  · rw [if_pos h]
    refine errB_len ?_
    rw [lenB_no]
    · decide
    · rintro ⟨m, _, ⟨j, x, hx, hj⟩, _⟩
      have hjl := (List.getElem?_eq_some_iff.1 hx).1
      have h3 : j = 0 ∨ j = 1 ∨ j = 2 ∨ j = 3 := by omega
      rcases h3 with rfl | rfl | rfl | rfl <;> simp at hj
  · rw [if_neg h]
    obtain ⟨y, hy⟩ : ∃ y, ys[4]? = some y := ⟨_, List.getElem?_eq_getElem (by omega)⟩
    have hev : EvenB ys [0, 1, 2, 3] n := ⟨hn, ⟨4, y, hy, by decide⟩, fun j x hx _ => hall x (List.mem_of_getElem? hx)⟩
    have hok : OkBad ys.length [0, 1, 2, 3] := fun i b hb => by
      have hi : i < 4 := (List.getElem?_eq_some_iff.1 hb).1
      have h3 : i = 0 ∨ i = 1 ∨ i = 2 ∨ i = 3 := by omega
      rcases h3 with rfl | rfl | rfl | rfl
      · injection hb with hb
        subst hb
        exact ⟨by omega, fun c h1 _ => absurd h1 (by decide)⟩
      · injection hb with hb
        subst hb
        exact ⟨by omega, fun c _ h1 => by injection h1 with h1; omega⟩
      · injection hb with hb
        subst hb
        exact ⟨by omega, fun c _ h1 => by injection h1 with h1; omega⟩
      · injection hb with hb
        subst hb
        exact ⟨by omega, fun c _ h1 => by injection h1 with h1; omega⟩
    rw [errB_ok h4 hok (by rw [lenB_of hev]; omega), if_neg (by decide)]
/-- without a bad column all stay as they are -/
theorem rb_nil {cols res : List (List UInt8)} {k n : Nat} (h : RB cols [] k n res) (hl : cols.length = k + 3) : res = cols := by
  apply List.ext_getElem?
  intro j
  rcases Nat.lt_or_ge j (k + 3) with h1 | h1
  · exact h.keep j h1 (by simp)
  · rw [List.getElem?_eq_none (by rw [h.len]; exact h1), List.getElem?_eq_none (by omega)]
end Go.HL
namespace Go.Proofs.Ytjdbjdgobhjbkaa
open Go.RowKit Go.HL

theorem okM_pos2 {rs : List Rw} (h : okM rs) : 0 < rs.length := by
  obtain ⟨n, _, _, _, hne, _⟩ := lenC_some h.2
  rcases Nat.eq_zero_or_pos rs.length with h1 | h1
  · exact absurd (by rw [List.eq_nil_of_length_eq_zero h1]; rfl) hne
  · exact h1
set_option maxHeartbeats 8000000 in
theorem parityBounds_good {w : World} {aa : Option Addr} {ca : Nat} {ra : List Rw} (ha : RS (· < w.heap.size) w aa ca ra) (la : bounded ra) (n : Nat) (h13 : ra.length ≤ 13) (hn : lenC (xss ra) = (n : Int)) :
    Calls Try.prog 8 [.slice aa ra.length ca].toArray w (Ret fun v w' => v = .bool true ∧ Chg Nob w w') := by
  have hw := Chg.refl Nob w
  have hpos := okM_pos2 (rs := ra) ⟨h13, by omega⟩
  obtain ⟨m0, hm, hn1, hn2, hne, hall⟩ := lenC_some (cols := xss ra) (by omega)
  have hmn : m0 = n := by omega
  subst hmn
  have hxl := xss_len ra
  refine Calls.of_WC Try.func8 rfl Try.ntmps8 (by simp) ?_
  refine WC.seq (WC.region (WL.assign rfl rfl (WL.nil (WX.then_normal (WC.seq (WC.seq (WC.region (?_))))))))
  refine WL.call eg_16 rfl rfl (known3_calls _) ?_
  rintro v w0 ⟨rfl, k0⟩
  have zs_k0 := k0.size
  replace ha := ha.pure k0
  replace hw := hw.pure k0
  refine WL.not rfl rfl (WL.move rfl rfl (WL.want rfl rfl rfl (WL.move rfl rfl (WL.want rfl rfl rfl (?_)))))
  refine WL.call eg_17 rfl rfl (small_calls ha la) ?_
  rintro v w0 ⟨⟨s1, rfl⟩, k0⟩
  have zs_k0 := k0.size
  replace ha := ha.pure k0
  replace hw := hw.pure k0
  rcases s1 with _ | _
  ·
    refine WL.want rfl rfl rfl (WL.not rfl rfl (WL.pickF rfl rfl rfl (WL.nil (WX.then_normal (WC.cond_true rfl (WC.seq (WC.region (?_))))))))
    refine WL.call eg_16 rfl rfl (known3_calls _) ?_
    rintro v w0 ⟨rfl, k0⟩
    have zs_k0 := k0.size
    replace ha := ha.pure k0
    replace hw := hw.pure k0
    refine WL.assign rfl rfl (WL.nil (WX.then_normal (WC.ret (WX.then_ret (?_)))))
    refine WX.ret1 (.inl rfl) Try.results8 rfl ?_
    first
      | exact ⟨_, rfl, rfl, hw⟩
      | (exfalso; omega)
  ·
    refine WL.want rfl rfl rfl (WL.not rfl rfl (WL.pickF rfl rfl rfl (WL.nil (WX.then_normal (WC.cond_false rfl (WC.skip (WX.then_normal (?_))))))))
    refine WC.seq (WC.region (WL.move rfl rfl (?_)))
    refine WL.call eg_21 rfl rfl (make_rs ha h13 hn) ?_
    rintro v w0 ⟨⟨ap, cp, ps, rfl, hp, hps⟩, k0⟩
    have zs_k0 := k0.size
    replace ha := ha.pure k0
    replace hw := hw.pure k0
    replace hp := hp.old
    refine WL.move rfl rfl (WL.extract rfl rfl rfl (WL.extract rfl rfl rfl (WL.assign rfl rfl (WL.assign rfl rfl (WL.nil (WX.then_normal (WC.seq (?_))))))))
    refine WC.seq (WC.region (WL.move rfl rfl (?_)))
    refine WL.neqF rfl rfl rfl (by first | rfl | omega | decide) ?_
    refine WL.nil (WX.then_normal (WC.cond_false rfl (WC.skip (WX.then_normal (WC.seq (WC.region (?_)))))))
    refine WL.build (e := erow) [] Try.underlying22 Try.sizeOf23 Try.zeroValue23 rfl rfl rfl (by first | (simp [Value.cells]; done) | (simp [Value.cells] <;> rfl) | (simp [Value.cells, eb, ei, es, ebool, e32, e64]; done)) (by decide) rfl ?_
    intro a_b0 w_b0 b0 l_b0 z_b0 k_b0
    have zs_k_b0 := k_b0.size
    replace ha := ha.pure k_b0
    replace hw := hw.pure k_b0
    replace hp := hp.pure k_b0
    refine WL.move rfl rfl (?_)
    refine WL.append0 (e := erow) info_23 rfl Try.underlying22 rfl rfl b0 (ha.outer.src Try.underlying22) hpos (by constructor <;> omega) rfl ?_
    intro g2 c2 w2 hb2 k2 eg2 z2
    have hps3 : ps.length = 3 := by rw [← xss_len, hps]; rfl
    have zs_k2 := k2.size
    replace ha := ha.pure k2
    replace hw := hw.pure k2
    replace hp := hp.pure k2
    refine WL.move rfl rfl (?_)
    have hpal : ∀ y ∈ xss ps, y.length = m0 := by
      rw [hps]
      intro y hy
      simp only [three, List.mem_cons, List.not_mem_nil, or_false] at hy
      rcases hy with rfl | rfl | rfl <;> exact prow_len hall (by omega)
    refine WL.append (e := erow) info_23 rfl Try.underlying22 rfl rfl (hb2.mono (S' := fun x => g2 ≤ x) (fun b h => by have h3 : b = g2 := h; omega)) (hp.outer.src Try.underlying22) (by constructor <;> omega) (fun b hb => by omega) rfl ?_
    intro ao3 c3 w3 hb3 gg3 n3
    have gc : Chg (fun x => x = g2) _ w3 := gg3.chg.mono (by rintro x _ ⟨⟨a, ea, rfl⟩, _⟩; injection ea with ea; rw [← ea])
    have zs_gc := gc.size
    replace ha := ha.chg gc (by first | (intro x h1 h2; exact h2) | (intro x h1 h2; have h3 : _ = _ := h2; exfalso; omega) | (intro b h1 h2 h3; have h4 : _ = _ := h3; (try dsimp only at h2); exfalso; omega) | (intro h1; have h2 : _ = _ := h1; exfalso; omega) | (intro h1; have h2 : _ ≤ _ := h1; exfalso; omega) | (intros; exfalso; (try dsimp only at *); omega) | (intro b h1 h2 h3; exfalso; have h4 := h3.2; (try dsimp only at *); omega) | (intro h1; exfalso; have h4 := h1.2; (try dsimp only at *); omega))
    replace hw := hw.chg gc (by first | (intro x h1 h2; exact h2) | (intro x h1 h2; have h3 : _ = _ := h2; exfalso; omega) | (intro b h1 h2 h3; have h4 : _ = _ := h3; (try dsimp only at h2); exfalso; omega) | (intro h1; have h2 : _ = _ := h1; exfalso; omega) | (intro h1; have h2 : _ ≤ _ := h1; exfalso; omega) | (intros; exfalso; (try dsimp only at *); omega) | (intro b h1 h2 h3; exfalso; have h4 := h3.2; (try dsimp only at *); omega) | (intro h1; exfalso; have h4 := h1.2; (try dsimp only at *); omega))
    replace hp := hp.chg gc (by first | (intro x h1 h2; exact h2) | (intro x h1 h2; have h3 : _ = _ := h2; exfalso; omega) | (intro b h1 h2 h3; have h4 : _ = _ := h3; (try dsimp only at h2); exfalso; omega) | (intro h1; have h2 : _ = _ := h1; exfalso; omega) | (intro h1; have h2 : _ ≤ _ := h1; exfalso; omega) | (intros; exfalso; (try dsimp only at *); omega) | (intro b h1 h2 h3; exfalso; have h4 := h3.2; (try dsimp only at *); omega) | (intro h1; exfalso; have h4 := h1.2; (try dsimp only at *); omega))
    refine WL.assign rfl rfl (WL.nil (WX.then_normal (WC.seq (WC.region (WL.move rfl rfl (?_))))))
    have hR : RS (fun _ => True) _ ao3 c3 (ra ++ ps) := ⟨hb3.rsl.mono (fun _ _ => trivial), fun r hr => (List.mem_append.1 hr).elim (fun h => (ha.inner r h).mono (fun _ _ => trivial)) (fun h => (hp.inner r h).mono (fun _ _ => trivial))⟩
    replace hR := hR.old
    have hLn : (ra ++ ps).length = ra.length + 3 := by rw [List.length_append, hps3]
    have hxa : xss (ra ++ ps) = xss ra ++ xss ps := by rw [xss, xss, xss, List.map_append]
    have hax : ∀ y ∈ xss (ra ++ ps), y.length = m0 := fun y hy => by
      rw [hxa] at hy
      rcases List.mem_append.1 hy with h1 | h1
      ·
        exact hall y h1
      ·
        exact hpal y h1
    have hxL : (xss (ra ++ ps)).length = ra.length + 3 := by rw [xss_len, hLn]
    have hev := even_nil (ys := xss (ra ++ ps)) (n := m0) (by omega) hax ⟨hn1, hn2⟩
    have hg := rebuild_good hR (RSl.nil (fun _ => True) _ ei none 0) hLn ⟨hpos, h13⟩ (err_nil (by omega) hax ⟨hn1, hn2⟩) (by decide) (lenB_of hev) hev
    refine WL.call eg_19 rfl rfl (hg) ?_
    rintro v w5 ⟨⟨go, N, p2, rfl, hO, hgo, hRB⟩, k5⟩
    have hx2 : xss p2 = xss (ra ++ ps) := rb_nil hRB hxL
    have hl2 : p2.length = ra.length + 3 := by rw [← xss_len, hx2, hxL]
    have hp2 := (hO.toRS (S := fun _ => True) (fun _ _ _ => trivial)).old
    rw [show Value.slice (some ⟨go, 0, none⟩) (ra.length + 3) (ra.length + 3) = Value.slice (some ⟨go, 0, none⟩) p2.length p2.length from by rw [hl2]]
    have zs_k5 := k5.size
    replace ha := ha.pure k5
    replace hw := hw.pure k5
    replace hp := hp.pure k5
    replace hR := hR.pure k5
    refine WL.move rfl rfl (WL.extract rfl rfl rfl (WL.extract rfl rfl rfl (WL.assign rfl rfl (WL.assign rfl rfl (WL.nil (WX.then_normal (WC.seq (?_))))))))
    refine WC.region (WL.move rfl rfl (WL.move rfl rfl (WL.len Try.underlying22 rfl rfl (?_))))
    refine WL.build (e := ei) [((ra ++ ps).length : Int)] Try.underlying33 Try.sizeOf3 Try.zeroValue3 rfl rfl rfl (by first | (simp [Value.cells]; done) | (simp [Value.cells] <;> rfl) | (simp [Value.cells, eb, ei, es, ebool, e32, e64]; done)) (by decide) rfl ?_
    intro a_b43 w_b43 b43 l_b43 z_b43 k_b43
    have zs_k_b43 := k_b43.size
    replace ha := ha.pure k_b43
    replace hw := hw.pure k_b43
    replace hp := hp.pure k_b43
    replace hR := hR.pure k_b43
    replace hp2 := hp2.pure k_b43
    have hb44 := rebuild_bad hR b43.rsl (by omega) (by show 1 ≤ _; decide) (by rw [← xss_len, err_past]; decide)
    rw [← xss_len (ra ++ ps), err_past] at hb44
    rw [xss_len] at hb44
    refine WL.call eg_19 rfl rfl (hb44) ?_
    rintro v w6 ⟨rfl, k6⟩
    have zs_k6 := k6.size
    replace ha := ha.pure k6
    replace hw := hw.pure k6
    replace hp := hp.pure k6
    replace hR := hR.pure k6
    replace hp2 := hp2.pure k6
    refine WL.move rfl rfl (WL.extract rfl rfl rfl (WL.extract rfl rfl rfl (WL.assign rfl rfl (WL.assign rfl rfl (WL.nil (WX.then_normal (WC.seq (?_))))))))
    refine WC.region (WL.move rfl rfl (?_))
    refine WL.build (e := ei) [1, 0] Try.underlying33 Try.sizeOf3 Try.zeroValue3 rfl rfl rfl (by first | (simp [Value.cells]; done) | (simp [Value.cells] <;> rfl) | (simp [Value.cells, eb, ei, es, ebool, e32, e64]; done)) (by decide) rfl ?_
    intro a_b49 w_b49 b49 l_b49 z_b49 k_b49
    have zs_k_b49 := k_b49.size
    replace ha := ha.pure k_b49
    replace hw := hw.pure k_b49
    replace hp := hp.pure k_b49
    replace hR := hR.pure k_b49
    replace hp2 := hp2.pure k_b49
    have hb50 := rebuild_bad hR b49.rsl (by omega) (by show 2 ≤ _; decide) (by rw [err_turned]; decide)
    rw [err_turned] at hb50
    refine WL.call eg_19 rfl rfl (hb50) ?_
    rintro v w7 ⟨rfl, k7⟩
    have zs_k7 := k7.size
    replace ha := ha.pure k7
    replace hw := hw.pure k7
    replace hp := hp.pure k7
    replace hR := hR.pure k7
    replace hp2 := hp2.pure k7
    refine WL.move rfl rfl (WL.extract rfl rfl rfl (WL.extract rfl rfl rfl (WL.assign rfl rfl (WL.assign rfl rfl (WL.nil (WX.then_normal (WC.seq (?_))))))))
    refine WC.region (WL.move rfl rfl (?_))
    refine WL.build (e := ei) [0, 1, 2, 3] Try.underlying33 Try.sizeOf3 Try.zeroValue3 rfl rfl rfl (by first | (simp [Value.cells]; done) | (simp [Value.cells] <;> rfl) | (simp [Value.cells, eb, ei, es, ebool, e32, e64]; done)) (by decide) rfl ?_
    intro a_b55 w_b55 b55 l_b55 z_b55 k_b55
    have zs_k_b55 := k_b55.size
    replace ha := ha.pure k_b55
    replace hw := hw.pure k_b55
    replace hp := hp.pure k_b55
    replace hR := hR.pure k_b55
    replace hp2 := hp2.pure k_b55
    have hb56 := rebuild_bad hR b55.rsl (by omega) (by show 4 ≤ _; decide) (by rw [err_four (by omega) hax ⟨hn1, hn2⟩]; split <;> decide)
    rw [err_four (by omega) hax ⟨hn1, hn2⟩] at hb56
    refine WL.call eg_19 rfl rfl (hb56) ?_
    rintro v w8 ⟨rfl, k8⟩
    have zs_k8 := k8.size
    replace ha := ha.pure k8
    replace hw := hw.pure k8
    replace hp := hp.pure k8
    replace hR := hR.pure k8
    replace hp2 := hp2.pure k8
    by_cases h4 : (xss (ra ++ ps)).length = 4
    ·
      rw [if_pos h4]
      refine WL.move rfl rfl (WL.extract rfl rfl rfl (WL.extract rfl rfl rfl (WL.assign rfl rfl (WL.assign rfl rfl (WL.nil (WX.then_normal (WC.seq (?_))))))))
      refine WC.seq (WC.region (WL.move rfl rfl (?_)))
      refine WL.neqF rfl rfl rfl (by first | rfl | omega | decide) ?_
      refine WL.move rfl rfl (WL.want rfl rfl rfl (WL.move rfl rfl (WL.want rfl rfl rfl (WL.move rfl rfl (WL.want rfl rfl rfl (?_))))))
      refine WL.call eg_20 rfl rfl (same_calls hp2 hR (by omega)) ?_
      rintro v w9 ⟨rfl, k9⟩
      rw [hx2, show decide (xss (ra ++ ps) = xss (ra ++ ps)) = true from decide_eq_true rfl]
      have zs_k9 := k9.size
      replace ha := ha.pure k9
      replace hw := hw.pure k9
      replace hp := hp.pure k9
      replace hR := hR.pure k9
      replace hp2 := hp2.pure k9
      refine WL.want rfl rfl rfl (WL.not rfl rfl (WL.pickF rfl rfl rfl (WL.move rfl rfl (WL.want rfl rfl rfl (WL.move rfl rfl (WL.want rfl rfl rfl (?_)))))))
      refine WL.neqF rfl rfl rfl (by first | rfl | omega | decide) ?_
      refine WL.pickF rfl rfl rfl (WL.move rfl rfl (WL.want rfl rfl rfl (WL.move rfl rfl (WL.want rfl rfl rfl (?_)))))
      refine WL.neqF rfl rfl rfl (by first | rfl | omega | decide) ?_
      refine WL.pickF rfl rfl rfl (WL.nil (WX.then_normal (WC.cond_false rfl (WC.skip (WX.then_normal (WC.seq (WC.region (?_))))))))
      refine WL.move rfl rfl (?_)
      refine WL.eql? rfl rfl rfl (fun h76 => ?_) (fun h76 => ?_)
      ·
        refine WL.move rfl rfl (WL.pass rfl rfl rfl rfl (WL.pass rfl rfl rfl rfl (WL.pass rfl rfl rfl rfl (WL.pass rfl rfl rfl rfl (WL.passU rfl rfl rfl (WL.passU rfl rfl rfl (WL.pass rfl rfl rfl rfl (?_))))))))
        refine WL.pickT rfl rfl rfl (WL.assign rfl rfl (WL.nil (WX.then_normal (WC.ret (?_)))))
        refine WX.ret1 (.inl rfl) Try.results8 rfl ?_
        first
          | exact ⟨_, rfl, rfl, hw⟩
          | (exfalso; omega)
      ·
        refine WL.move rfl rfl (WL.want rfl rfl rfl (WL.move rfl rfl (WL.want rfl rfl rfl (WL.len Try.underlying22 rfl rfl (WL.want rfl rfl rfl (?_))))))
        refine WL.eql? rfl rfl rfl (fun h80 => ?_) (fun h80 => ?_)
        ·
          refine WL.want rfl rfl rfl (WL.move rfl rfl (WL.want rfl rfl rfl (WL.move rfl rfl (WL.want rfl rfl rfl (WL.eql rfl rfl rfl (WL.want rfl rfl rfl (WL.pickT rfl rfl rfl (?_))))))))
          refine WL.pickF rfl rfl rfl (WL.assign rfl rfl (WL.nil (WX.then_normal (WC.ret (?_)))))
          refine WX.ret1 (.inl rfl) Try.results8 rfl ?_
          first
            | exact ⟨_, rfl, rfl, hw⟩
            | (exfalso; omega)
        ·
          refine WL.want rfl rfl rfl (WL.move rfl rfl (WL.pass rfl rfl rfl rfl (WL.pass rfl rfl rfl rfl (WL.want rfl rfl rfl (WL.pickF rfl rfl rfl (WL.pickF rfl rfl rfl (WL.assign rfl rfl (?_))))))))
          refine WL.nil (WX.then_normal (WC.ret (?_)))
          refine WX.ret1 (.inl rfl) Try.results8 rfl ?_
          first
            | exact ⟨_, rfl, rfl, hw⟩
            | (exfalso; omega)
    ·
      rw [if_neg h4]
      refine WL.move rfl rfl (WL.extract rfl rfl rfl (WL.extract rfl rfl rfl (WL.assign rfl rfl (WL.assign rfl rfl (WL.nil (WX.then_normal (WC.seq (?_))))))))
      refine WC.seq (WC.region (WL.move rfl rfl (?_)))
      refine WL.neqF rfl rfl rfl (by first | rfl | omega | decide) ?_
      refine WL.move rfl rfl (WL.want rfl rfl rfl (WL.move rfl rfl (WL.want rfl rfl rfl (WL.move rfl rfl (WL.want rfl rfl rfl (?_))))))
      refine WL.call eg_20 rfl rfl (same_calls hp2 hR (by omega)) ?_
      rintro v w9 ⟨rfl, k9⟩
      rw [hx2, show decide (xss (ra ++ ps) = xss (ra ++ ps)) = true from decide_eq_true rfl]
      have zs_k9 := k9.size
      replace ha := ha.pure k9
      replace hw := hw.pure k9
      replace hp := hp.pure k9
      replace hR := hR.pure k9
      replace hp2 := hp2.pure k9
      refine WL.want rfl rfl rfl (WL.not rfl rfl (WL.pickF rfl rfl rfl (WL.move rfl rfl (WL.want rfl rfl rfl (WL.move rfl rfl (WL.want rfl rfl rfl (?_)))))))
      refine WL.neqF rfl rfl rfl (by first | rfl | omega | decide) ?_
      refine WL.pickF rfl rfl rfl (WL.move rfl rfl (WL.want rfl rfl rfl (WL.move rfl rfl (WL.want rfl rfl rfl (?_)))))
      refine WL.neqF rfl rfl rfl (by first | rfl | omega | decide) ?_
      refine WL.pickF rfl rfl rfl (WL.nil (WX.then_normal (WC.cond_false rfl (WC.skip (WX.then_normal (WC.seq (WC.region (?_))))))))
      refine WL.move rfl rfl (?_)
      refine WL.eql? rfl rfl rfl (fun h76 => ?_) (fun h76 => ?_)
      ·
        refine WL.move rfl rfl (WL.pass rfl rfl rfl rfl (WL.pass rfl rfl rfl rfl (WL.pass rfl rfl rfl rfl (WL.pass rfl rfl rfl rfl (WL.passU rfl rfl rfl (WL.passU rfl rfl rfl (WL.pass rfl rfl rfl rfl (?_))))))))
        refine WL.pickT rfl rfl rfl (WL.assign rfl rfl (WL.nil (WX.then_normal (WC.ret (?_)))))
        refine WX.ret1 (.inl rfl) Try.results8 rfl ?_
        first
          | exact ⟨_, rfl, rfl, hw⟩
          | (exfalso; omega)
      ·
        refine WL.move rfl rfl (WL.want rfl rfl rfl (WL.move rfl rfl (WL.want rfl rfl rfl (WL.len Try.underlying22 rfl rfl (WL.want rfl rfl rfl (?_))))))
        refine WL.eql? rfl rfl rfl (fun h80 => ?_) (fun h80 => ?_)
        ·
          refine WL.want rfl rfl rfl (WL.move rfl rfl (WL.want rfl rfl rfl (WL.move rfl rfl (WL.want rfl rfl rfl (WL.eql rfl rfl rfl (WL.want rfl rfl rfl (WL.pickT rfl rfl rfl (?_))))))))
          refine WL.pickF rfl rfl rfl (WL.assign rfl rfl (WL.nil (WX.then_normal (WC.ret (?_)))))
          refine WX.ret1 (.inl rfl) Try.results8 rfl ?_
          first
            | exact ⟨_, rfl, rfl, hw⟩
            | (exfalso; omega)
        ·
          refine WL.want rfl rfl rfl (WL.move rfl rfl (WL.pass rfl rfl rfl rfl (WL.pass rfl rfl rfl rfl (WL.want rfl rfl rfl (WL.pickF rfl rfl rfl (WL.pickF rfl rfl rfl (WL.assign rfl rfl (?_))))))))
          refine WL.nil (WX.then_normal (WC.ret (?_)))
          refine WX.ret1 (.inl rfl) Try.results8 rfl ?_
          first
            | exact ⟨_, rfl, rfl, hw⟩
            | (exfalso; omega)
theorem parityBounds_bad {w : World} {aa : Option Addr} {ca : Nat} {ra : List Rw} (ha : RS (· < w.heap.size) w aa ca ra) (la : bounded ra) (hno : ¬ okM ra) :
    Calls Try.prog 8 [.slice aa ra.length ca].toArray w (Ret fun v w' => v = .bool true ∧ Chg Nob w w') := by
  have hw := Chg.refl Nob w
  refine Calls.of_WC Try.func8 rfl Try.ntmps8 (by simp) ?_
  refine WC.seq (WC.region (WL.assign rfl rfl (WL.nil (WX.then_normal (WC.seq (WC.seq (WC.region (?_))))))))
  refine WL.call eg_16 rfl rfl (known3_calls _) ?_
  rintro v w0 ⟨rfl, k0⟩
  have zs_k0 := k0.size
  replace ha := ha.pure k0
  replace hw := hw.pure k0
  refine WL.not rfl rfl (WL.move rfl rfl (WL.want rfl rfl rfl (WL.move rfl rfl (WL.want rfl rfl rfl (?_)))))
  refine WL.call eg_17 rfl rfl (small_calls ha la) ?_
  rintro v w0 ⟨⟨s1, rfl⟩, k0⟩
  have zs_k0 := k0.size
  replace ha := ha.pure k0
  replace hw := hw.pure k0
  rcases s1 with _ | _
  ·
    refine WL.want rfl rfl rfl (WL.not rfl rfl (WL.pickF rfl rfl rfl (WL.nil (WX.then_normal (WC.cond_true rfl (WC.seq (WC.region (?_))))))))
    refine WL.call eg_16 rfl rfl (known3_calls _) ?_
    rintro v w0 ⟨rfl, k0⟩
    have zs_k0 := k0.size
    replace ha := ha.pure k0
    replace hw := hw.pure k0
    refine WL.assign rfl rfl (WL.nil (WX.then_normal (WC.ret (WX.then_ret (?_)))))
    refine WX.ret1 (.inl rfl) Try.results8 rfl ?_
    exact ⟨_, rfl, rfl, hw⟩
  ·
    refine WL.want rfl rfl rfl (WL.not rfl rfl (WL.pickF rfl rfl rfl (WL.nil (WX.then_normal (WC.cond_false rfl (WC.skip (WX.then_normal (?_))))))))
    refine WC.seq (WC.region (WL.move rfl rfl (?_)))
    refine WL.call eg_21 rfl rfl (make_bad ha la.1 hno) ?_
    rintro v w0 ⟨rfl, k0⟩
    have zs_k0 := k0.size
    replace ha := ha.pure k0
    replace hw := hw.pure k0
    refine WL.move rfl rfl (WL.extract rfl rfl rfl (WL.extract rfl rfl rfl (WL.assign rfl rfl (WL.assign rfl rfl (WL.nil (WX.then_normal (WC.seq (?_))))))))
    refine WC.seq (WC.region (WL.move rfl rfl (?_)))
    refine WL.neqT rfl rfl rfl (by first | rfl | omega | decide) ?_
    refine WL.nil (WX.then_normal (WC.cond_true rfl (WC.seq (WC.region (WL.assign rfl rfl (WL.nil (WX.then_normal (?_))))))))
    refine WC.ret (WX.then_ret (?_))
    refine WX.ret1 (.inl rfl) Try.results8 rfl ?_
    exact ⟨_, rfl, rfl, hw⟩
theorem parityBounds_calls {w : World} {aa : Option Addr} {ca : Nat} {ra : List Rw} (ha : RS (· < w.heap.size) w aa ca ra) (la : bounded ra) :
    Calls Try.prog 8 [.slice aa ra.length ca].toArray w (Ret fun v w' => v = .bool true ∧ Chg Nob w w') := by
  by_cases h : okM ra
  · obtain ⟨n, hn, _⟩ := lenC_some h.2
    exact parityBounds_good ha la n h.1 hn
  · exact parityBounds_bad ha la h
end Go.Proofs.Ytjdbjdgobhjbkaa
namespace Go.Proofs.Ytjdbjdgobhjbkaa
open Go.RowKit Go.HL

theorem okM_pos {rs : List Rw} (h : okM rs) : 0 < rs.length := by
  obtain ⟨n, _, _, _, hne, _⟩ := lenC_some h.2
  rcases Nat.eq_zero_or_pos rs.length with h1 | h1
  · exact absurd (by rw [List.eq_nil_of_length_eq_zero h1]; rfl) hne
  · exact h1
/-! Check -/
def chk (rs : List Rw) (n : Nat) : Bool := decide (three ((xss rs).take (rs.length - 3)) n (rs.length - 3) = (xss rs).drop (rs.length - 3))
set_option maxHeartbeats 2000000 in
theorem check_good {S : Nat → Prop} {w : World} {ao : Option Addr} {c : Nat} {rs : List Rw} {n : Nat} (hc : RS S w ao c rs) (h : rightR rs) (hn : lenC (xss rs) = (n : Int)) :
    Calls Try.prog 22 [.slice ao rs.length c].toArray w (Ret fun v w' => v = .tuple #[.bool (chk rs n), vi 0] ∧ Chg Nob w w') := by
  replace hc := hc.old
  have hw := Chg.refl Nob w
  obtain ⟨m, hm, hm1, hm2, hne, hall⟩ := lenC_some (cols := xss rs) (by omega)
  have hmn : m = n := by omega
  subst hmn
  have h1 := h.1
  have h2 := h.2.1
  obtain ⟨k, hk⟩ : ∃ k, rs.length = k + 3 := ⟨rs.length - 3, by omega⟩
  have hk3 : rs.length - 3 = k := by omega
  refine Calls.of_WC Try.func22 rfl Try.ntmps22 (by simp) ?_
  refine WC.seq (WC.region (WL.assign rfl rfl (WL.assign rfl rfl (WL.nil (WX.then_normal (WC.seq (WC.region (?_))))))))
  refine WL.move rfl rfl (?_)
  refine WL.call eg_38 rfl rfl (right_good hc h) ?_
  rintro v w1 ⟨rfl, k1⟩
  rw [hm]
  have zs_k1 := k1.size
  replace hc := hc.pure k1
  replace hw := hw.pure k1
  refine WL.move rfl rfl (WL.extract rfl rfl rfl (WL.extract rfl rfl rfl (WL.assign rfl rfl (WL.assign rfl rfl (WL.nil (WX.then_normal (WC.seq (?_))))))))
  refine WC.seq (WC.region (WL.move rfl rfl (?_)))
  refine WL.neq rfl rfl rfl ?_
  rw [show decide ((0 : Int) ≠ 0) = false from rfl]
  refine WL.nil (WX.then_normal (WC.cond_false rfl (WC.skip (WX.then_normal (WC.seq (WC.region (WL.move rfl rfl (?_))))))))
  refine WL.len Try.underlying22 rfl rfl (?_)
  refine WL.sub64 rfl rfl (by constructor <;> omega) rfl ?_
  rw [show ((rs.length : Int) - 3) = (k : Int) from by omega]
  refine WL.assign rfl rfl (WL.nil (WX.then_normal (WC.seq (?_))))
  have hc1 := hc.cut 0 k ⟨by omega, by omega⟩
  have hc2 := hc.cut k rs.length ⟨by omega, Nat.le_refl _⟩
  have hl1 : ((rs.take k).drop 0).length = k := by simp; omega
  refine WC.draw (Nob) [0, 2, 3, 4, 5, 7, 8, 9, 12] [1, 6, 10, 11] mixed rfl rfl (fun wd_1 kd_1 zd_1 => ?_)
  have zs_kd_1 := kd_1.size
  replace hc := hc.pure kd_1
  replace hw := hw.pure kd_1
  replace hc1 := hc1.pure kd_1
  replace hc2 := hc2.pure kd_1
  apply DQ.step (E' := [])
  case ho => rfl
  case hs => exact trivial
  case hk => rfl
  case h1 =>
    intro wq_3 kq_3
    refine WL.bld rfl bldF rfl ?_
    refine WL.nil ?_
    exact WX.one ⟨rfl, by first | exact Chg.refl _ _ | assumption⟩
  apply DQ.step (E' := [(0, _)])
  case ho => rfl
  case hs => exact ⟨rfl, trivial⟩
  case hk => rfl
  case h1 =>
    intro wq_4 kq_4
    refine WL.move rfl rfl (?_)
    refine WL.nil ?_
    exact WX.one ⟨rfl, by first | exact Chg.refl _ _ | assumption⟩
  apply DQ.step (E' := [(6, _)])
  case ho => rfl
  case hs => exact ⟨rfl, trivial⟩
  case hk => rfl
  case h1 =>
    intro wq_5 kq_5
    refine WL.move rfl rfl (?_)
    refine WL.nil ?_
    exact WX.one ⟨rfl, by first | exact Chg.refl _ _ | assumption⟩
  apply DQ.step (E' := [(20, _), (21, _)])
  case ho => rfl
  case hs => exact ⟨rfl, rfl, trivial⟩
  case hk => rfl
  case h1 =>
    intro wq_6 kq_6
    have zs_kq_6 := kq_6.size
    replace hc := hc.pure kq_6
    replace hw := hw.pure kq_6
    replace hc1 := hc1.pure kq_6
    replace hc2 := hc2.pure kq_6
    refine WL.sliceC (l := 0) (h := k) (k := .i64) Try.underlying22 Try.sizeOf23 hc.outer rfl (.inr ⟨rfl, rfl⟩) (.inl rfl) (by constructor <;> omega) rfl ?_
    refine WL.nil ?_
    exact WX.one ⟨rfl, by first | exact Chg.refl _ _ | assumption⟩
  apply DQ.step (E' := [(4, _)])
  case ho => rfl
  case hs => exact ⟨rfl, trivial⟩
  case hk => rfl
  case h1 =>
    intro wq_7 kq_7
    refine WL.move rfl rfl (?_)
    refine WL.nil ?_
    exact WX.one ⟨rfl, by first | exact Chg.refl _ _ | assumption⟩
  apply DQ.step (E' := [(0, _)])
  case ho => rfl
  case hs => exact ⟨rfl, trivial⟩
  case hk => rfl
  case h1 =>
    intro wq_8 kq_8
    refine WL.move rfl rfl (?_)
    refine WL.nil ?_
    exact WX.one ⟨rfl, by first | exact Chg.refl _ _ | assumption⟩
  apply DQ.step (E' := [(6, _)])
  case ho => rfl
  case hs => exact ⟨rfl, trivial⟩
  case hk => rfl
  case h1 =>
    intro wq_9 kq_9
    refine WL.move rfl rfl (?_)
    refine WL.nil ?_
    exact WX.one ⟨rfl, by first | exact Chg.refl _ _ | assumption⟩
  apply DQ.step (E' := [(25, _), (26, _)])
  case ho => rfl
  case hs => exact ⟨rfl, rfl, trivial⟩
  case hk => rfl
  case h1 =>
    intro wq_10 kq_10
    have zs_kq_10 := kq_10.size
    replace hc := hc.pure kq_10
    replace hw := hw.pure kq_10
    replace hc1 := hc1.pure kq_10
    replace hc2 := hc2.pure kq_10
    refine WL.sliceC (l := k) (h := rs.length) (j := .i64) Try.underlying22 Try.sizeOf23 hc.outer rfl (.inl rfl) (.inr ⟨rfl, rfl⟩) (by constructor <;> omega) rfl ?_
    refine WL.nil ?_
    exact WX.one ⟨rfl, by first | exact Chg.refl _ _ | assumption⟩
  apply DQ.step (E' := [])
  case ho => rfl
  case hs => exact trivial
  case hk => rfl
  case h1 =>
    intro wq_11 kq_11
    refine WL.assign rfl rfl (?_)
    refine WL.nil ?_
    exact WX.one ⟨rfl, by first | exact Chg.refl _ _ | assumption⟩
  refine DQ.done (fun hd_2 => ?_)
  refine DL.step [(18, _)] rfl ⟨rfl, trivial⟩ rfl (fun wq_12 kq_12 => ?_)
  have zs_kq_12 := kq_12.size
  replace hc := hc.pure kq_12
  replace hw := hw.pure kq_12
  replace hc1 := hc1.pure kq_12
  replace hc2 := hc2.pure kq_12
  replace hd_2 := hd_2.pure kq_12
  refine WL.box rfl rfl ?_
  intro gx wx hgex hltx hbx kx
  have zs_kx := kx.size
  replace hc := hc.pure kx
  replace hw := hw.pure kx
  replace hc1 := hc1.pure kx
  replace hc2 := hc2.pure kx
  replace hd_2 := hd_2.pure kx
  refine WL.nil ?_
  refine WX.one ⟨hd_2, ?_⟩
  refine DL.step [(19, _), (22, _), (23, _)] rfl ⟨rfl, rfl, rfl, trivial⟩ rfl (fun wq_13 kq_13 => ?_)
  have zs_kq_13 := kq_13.size
  replace hc := hc.pure kq_13
  replace hw := hw.pure kq_13
  replace hc1 := hc1.pure kq_13
  replace hc2 := hc2.pure kq_13
  replace hd_2 := hd_2.pure kq_13
  replace hbx := hbx.pure kq_13
  have hF : Fld _ gx := .inl hbx
  have hc1' : RS (fun b => b < gx) _ (cutAt ao c 0 erow.sz) (c - 0) ((rs.take k).drop 0) := hc1.mono (fun b hb => by have := hw.size; omega)
  have hal1 : ∀ d ∈ xss ((rs.take k).drop 0), d.length = m := by
    rw [xss_take]
    exact fun d hd => hall d (List.mem_of_mem_take hd)
  refine WL.call eg_42 rfl rfl (sums_calls hF hc1' hm2 (by omega) hal1) ?_
  rintro v w2 ⟨⟨go, gs, rfl, hO, hgs, hgo⟩, k2⟩
  have zs_k2 := k2.size
  replace hc := hc.chg k2 (by first | (intro x h1 h2; exact h2) | (intro x h0 h1 h2; exact hS x h1 h2) | (intro x h0 h1 h2; have h3 : _ = _ := h2; subst h3; exact hSR h1.1) | (intro x h1 h2; have h3 : _ = _ := h2; subst h3; assumption) | (intro x h1 h2; have h3 : _ = _ := h2; exfalso; omega) | (intro b h1 h2 h3; have h4 : _ = _ := h3; (try dsimp only at h2); exfalso; omega) | (intro h1; have h2 : _ = _ := h1; exfalso; omega) | (intro h1; have h2 : _ ≤ _ := h1; exfalso; omega) | (intros; exfalso; (try dsimp only at *); omega) | (intro b h1 h2 h3; exfalso; have h4 := h3.2; (try dsimp only at *); omega) | (intro h1; exfalso; have h4 := h1.2; (try dsimp only at *); omega) | (intro x h1 h2; exfalso; have h4 := h2.2; (try dsimp only at *); omega) | (intro x h1 h2; exact ⟨_, rfl, h2⟩) | (intro x h1 h2; have h4 := h2.1; have h5 := h2.2; exfalso; omega) | (intro x h1 h2; exact h2.1) | (intro x h1 h2; rcases h2.1 with h3 | h3; exact h3; exfalso; omega) | (intro x h1 h2; rcases h2 with h3 | h3; exact h3; exfalso; omega))
  replace hw := hw.chg k2 (by first | (intro x h1 h2; exact h2) | (intro x h0 h1 h2; exact hS x h1 h2) | (intro x h0 h1 h2; have h3 : _ = _ := h2; subst h3; exact hSR h1.1) | (intro x h1 h2; have h3 : _ = _ := h2; subst h3; assumption) | (intro x h1 h2; have h3 : _ = _ := h2; exfalso; omega) | (intro b h1 h2 h3; have h4 : _ = _ := h3; (try dsimp only at h2); exfalso; omega) | (intro h1; have h2 : _ = _ := h1; exfalso; omega) | (intro h1; have h2 : _ ≤ _ := h1; exfalso; omega) | (intros; exfalso; (try dsimp only at *); omega) | (intro b h1 h2 h3; exfalso; have h4 := h3.2; (try dsimp only at *); omega) | (intro h1; exfalso; have h4 := h1.2; (try dsimp only at *); omega) | (intro x h1 h2; exfalso; have h4 := h2.2; (try dsimp only at *); omega) | (intro x h1 h2; exact ⟨_, rfl, h2⟩) | (intro x h1 h2; have h4 := h2.1; have h5 := h2.2; exfalso; omega) | (intro x h1 h2; exact h2.1) | (intro x h1 h2; rcases h2.1 with h3 | h3; exact h3; exfalso; omega) | (intro x h1 h2; rcases h2 with h3 | h3; exact h3; exfalso; omega))
  replace hc1 := hc1.chg k2 (by first | (intro x h1 h2; exact h2) | (intro x h0 h1 h2; exact hS x h1 h2) | (intro x h0 h1 h2; have h3 : _ = _ := h2; subst h3; exact hSR h1.1) | (intro x h1 h2; have h3 : _ = _ := h2; subst h3; assumption) | (intro x h1 h2; have h3 : _ = _ := h2; exfalso; omega) | (intro b h1 h2 h3; have h4 : _ = _ := h3; (try dsimp only at h2); exfalso; omega) | (intro h1; have h2 : _ = _ := h1; exfalso; omega) | (intro h1; have h2 : _ ≤ _ := h1; exfalso; omega) | (intros; exfalso; (try dsimp only at *); omega) | (intro b h1 h2 h3; exfalso; have h4 := h3.2; (try dsimp only at *); omega) | (intro h1; exfalso; have h4 := h1.2; (try dsimp only at *); omega) | (intro x h1 h2; exfalso; have h4 := h2.2; (try dsimp only at *); omega) | (intro x h1 h2; exact ⟨_, rfl, h2⟩) | (intro x h1 h2; have h4 := h2.1; have h5 := h2.2; exfalso; omega) | (intro x h1 h2; exact h2.1) | (intro x h1 h2; rcases h2.1 with h3 | h3; exact h3; exfalso; omega) | (intro x h1 h2; rcases h2 with h3 | h3; exact h3; exfalso; omega))
  replace hc2 := hc2.chg k2 (by first | (intro x h1 h2; exact h2) | (intro x h0 h1 h2; exact hS x h1 h2) | (intro x h0 h1 h2; have h3 : _ = _ := h2; subst h3; exact hSR h1.1) | (intro x h1 h2; have h3 : _ = _ := h2; subst h3; assumption) | (intro x h1 h2; have h3 : _ = _ := h2; exfalso; omega) | (intro b h1 h2 h3; have h4 : _ = _ := h3; (try dsimp only at h2); exfalso; omega) | (intro h1; have h2 : _ = _ := h1; exfalso; omega) | (intro h1; have h2 : _ ≤ _ := h1; exfalso; omega) | (intros; exfalso; (try dsimp only at *); omega) | (intro b h1 h2 h3; exfalso; have h4 := h3.2; (try dsimp only at *); omega) | (intro h1; exfalso; have h4 := h1.2; (try dsimp only at *); omega) | (intro x h1 h2; exfalso; have h4 := h2.2; (try dsimp only at *); omega) | (intro x h1 h2; exact ⟨_, rfl, h2⟩) | (intro x h1 h2; have h4 := h2.1; have h5 := h2.2; exfalso; omega) | (intro x h1 h2; exact h2.1) | (intro x h1 h2; rcases h2.1 with h3 | h3; exact h3; exfalso; omega) | (intro x h1 h2; rcases h2 with h3 | h3; exact h3; exfalso; omega))
  replace hd_2 := hd_2.chg k2 (by first | (intro x h1 h2; exact h2) | (intro x h0 h1 h2; exact hS x h1 h2) | (intro x h0 h1 h2; have h3 : _ = _ := h2; subst h3; exact hSR h1.1) | (intro x h1 h2; have h3 : _ = _ := h2; subst h3; assumption) | (intro x h1 h2; have h3 : _ = _ := h2; exfalso; omega) | (intro b h1 h2 h3; have h4 : _ = _ := h3; (try dsimp only at h2); exfalso; omega) | (intro h1; have h2 : _ = _ := h1; exfalso; omega) | (intro h1; have h2 : _ ≤ _ := h1; exfalso; omega) | (intros; exfalso; (try dsimp only at *); omega) | (intro b h1 h2 h3; exfalso; have h4 := h3.2; (try dsimp only at *); omega) | (intro h1; exfalso; have h4 := h1.2; (try dsimp only at *); omega) | (intro x h1 h2; exfalso; have h4 := h2.2; (try dsimp only at *); omega) | (intro x h1 h2; exact ⟨_, rfl, h2⟩) | (intro x h1 h2; have h4 := h2.1; have h5 := h2.2; exfalso; omega) | (intro x h1 h2; exact h2.1) | (intro x h1 h2; rcases h2.1 with h3 | h3; exact h3; exfalso; omega) | (intro x h1 h2; rcases h2 with h3 | h3; exact h3; exfalso; omega))
  have hol : gs.length = (three (xss ((rs.take k).drop 0)) m ((rs.take k).drop 0).length).length := hO.len
  rw [show Value.slice (some ⟨go, 0, none⟩) 3 3 = Value.slice (some ⟨go, 0, none⟩) (orows gs m (three (xss ((rs.take k).drop 0)) m ((rs.take k).drop 0).length)).length 3 from by rw [orows_len hol, hgs]]
  refine WL.nil ?_
  refine WX.one ⟨hd_2, ?_⟩
  refine DL.step [(24, _), (27, _)] rfl ⟨rfl, rfl, trivial⟩ rfl (fun wq_14 kq_14 => ?_)
  have zs_kq_14 := kq_14.size
  replace hc := hc.pure kq_14
  replace hw := hw.pure kq_14
  replace hc1 := hc1.pure kq_14
  replace hc2 := hc2.pure kq_14
  replace hd_2 := hd_2.pure kq_14
  replace hO := hO.pure kq_14
  have hOr := hO.rs (S := fun _ => True) trivial (fun _ _ _ => trivial)
  refine WL.call eg_44 rfl rfl (equalFunc_calls hOr hc2 (by rw [orows_len hol]; omega)) ?_
  rintro v w3 ⟨rfl, k3⟩
  rw [xss_orows hol, hl1, xss_take, xss_drop]
  have zs_k3 := k3.size
  replace hc := hc.pure k3
  replace hw := hw.pure k3
  replace hc1 := hc1.pure k3
  replace hc2 := hc2.pure k3
  replace hd_2 := hd_2.pure k3
  replace hO := hO.pure k3
  refine WL.nil ?_
  refine WX.one ⟨hd_2, ?_⟩
  refine DL.step [(28, _)] rfl ⟨rfl, trivial⟩ rfl (fun wq_15 kq_15 => ?_)
  have zs_kq_15 := kq_15.size
  replace hc := hc.pure kq_15
  replace hw := hw.pure kq_15
  replace hc1 := hc1.pure kq_15
  replace hc2 := hc2.pure kq_15
  replace hd_2 := hd_2.pure kq_15
  refine WL.assign rfl rfl (?_)
  refine WL.nil ?_
  refine WX.one ⟨hd_2, ?_⟩
  refine DL.done (fun we_16 ke_16 => ?_)
  have zs_ke_16 := ke_16.size
  replace hc := hc.pure ke_16
  replace hw := hw.pure ke_16
  replace hc1 := hc1.pure ke_16
  replace hc2 := hc2.pure ke_16
  replace hd_2 := hd_2.pure ke_16
  refine WX.then_normal (WC.ret (?_))
  refine WX.ret2 (.inl rfl) Try.results22 rfl rfl ?_
  refine ⟨_, rfl, ?_, hw⟩
  rw [chk, hk3]
theorem check_bad {S : Nat → Prop} {w : World} {ao : Option Addr} {c : Nat} {rs : List Rw} (hc : RS S w ao c rs) (hl : rs.length * 24 ≤ 140737488351232) (h : ¬ rightR rs) :
    Calls Try.prog 22 [.slice ao rs.length c].toArray w (Ret fun v w' => v = .tuple #[.bool false, vi 1] ∧ Chg Nob w w') := by
  replace hc := hc.old
  have hw := Chg.refl Nob w
  refine Calls.of_WC Try.func22 rfl Try.ntmps22 (by simp) ?_
  refine WC.seq (WC.region (WL.assign rfl rfl (WL.assign rfl rfl (WL.nil (WX.then_normal (WC.seq (WC.region (?_))))))))
  refine WL.move rfl rfl (?_)
  refine WL.call eg_38 rfl rfl (right_bad hc hl h) ?_
  rintro v w1 ⟨rfl, k1⟩
  have zs_k1 := k1.size
  replace hc := hc.pure k1
  replace hw := hw.pure k1
  refine WL.move rfl rfl (WL.extract rfl rfl rfl (WL.extract rfl rfl rfl (WL.assign rfl rfl (WL.assign rfl rfl (WL.nil (WX.then_normal (WC.seq (?_))))))))
  refine WC.seq (WC.region (WL.move rfl rfl (?_)))
  refine WL.neq rfl rfl rfl ?_
  rw [show decide ((1 : Int) ≠ 0) = true from rfl]
  refine WL.nil (WX.then_normal (WC.cond_true rfl (WC.seq (WC.region (WL.move rfl rfl (WL.assign rfl rfl (WL.assign rfl rfl (?_))))))))
  refine WL.nil (WX.then_normal (WC.ret (WX.then_ret (?_))))
  refine WX.ret2 (.inl rfl) Try.results22 rfl rfl ?_
  exact ⟨_, rfl, rfl, hw⟩
end Go.Proofs.Ytjdbjdgobhjbkaa
/-! plain: bad columns told by bools; what stands in their places -/
namespace Go.HL
open Go.RowKit
def bdL (bs : List Bool) (i : Nat) : List Nat := (List.range i).filter (fun j => bs.getD j false)
theorem bdL_next (bs : List Bool) (i : Nat) : bdL bs (i + 1) = bdL bs i ++ if bs.getD i false = true then [i] else [] := by
  rw [bdL, List.range_succ, List.filter_append, bdL]
  congr 1
  by_cases h : bs.getD i false = true
  · rw [if_pos h, List.filter_cons, if_pos h]; rfl
  · rw [if_neg h, List.filter_cons, if_neg h]; rfl
theorem bdL_mem {bs : List Bool} {i j : Nat} : j ∈ bdL bs i ↔ j < i ∧ bs.getD j false = true := by rw [bdL, List.mem_filter, List.mem_range]
theorem bdL_len (bs : List Bool) (i : Nat) : (bdL bs i).length ≤ i := by
  have := List.length_filter_le (fun j => bs.getD j false) (List.range i)
  rw [List.length_range] at this
  exact this
theorem bdL_set (bs : List Bool) (p : Nat) : ∀ i, (bdL (bs.set p true) i).length ≤ (bdL bs i).length + if p < i then 1 else 0
  | 0 => by rw [if_neg (Nat.not_lt_zero p)]; exact Nat.zero_le _
  | i + 1 => by
    have ih := bdL_set bs p i
    rw [bdL_next, bdL_next, List.length_append, List.length_append]
    by_cases e : p = i
    · subst e
      rw [if_neg (Nat.lt_irrefl p)] at ih
      rw [if_pos (Nat.lt_succ_self p)]
      have h1 : (if (bs.set p true).getD p false = true then [p] else []).length ≤ 1 := by split <;> simp
      omega
    · have e2 : (bs.set p true).getD i false = bs.getD i false := by rw [List.getD_eq_getElem?_getD, List.getElem?_set_ne e, ← List.getD_eq_getElem?_getD]
      rw [e2]
      by_cases h : p < i
      · rw [if_pos h] at ih
        rw [if_pos (show p < i + 1 by omega)]
        omega
      · rw [if_neg h] at ih
        rw [if_neg (show ¬ p < i + 1 by omega)]
        omega
theorem bdL_none (n i : Nat) : bdL (List.replicate n false) i = [] := by
  rw [bdL, List.filter_eq_nil_iff]
  intro j _
  rw [List.getD_eq_getElem?_getD, List.getElem?_replicate]
  split <;> simp
theorem bdL_int {bs : List Bool} {i : Nat} {j : Nat} : (j : Int) ∈ li (bdL bs i) ↔ j < i ∧ bs.getD j false = true := by
  rw [← bdL_mem, li, List.mem_map]
  constructor
  · rintro ⟨a, h1, h2⟩
    rw [show j = a from by omega]
    exact h1
  · intro h
    exact ⟨j, h, rfl⟩
theorem bdL_ok (bs : List Bool) (n : Nat) : OkBad n (li (bdL bs n)) := by
  have hs : (bdL bs n).Pairwise (· < ·) := List.Pairwise.filter _ List.pairwise_lt_range
  intro i b hb
  rw [li, List.getElem?_map] at hb
  rcases hx : (bdL bs n)[i]? with _ | x
  · rw [hx] at hb; cases hb
  · rw [hx] at hb
    injection hb with hb
    subst hb
    dsimp only
    have hm := (bdL_mem.1 (List.mem_of_getElem? hx)).1
    refine ⟨⟨by omega, by omega⟩, fun c hi hc => ?_⟩
    rw [li, List.getElem?_map] at hc
    rcases hy : (bdL bs n)[i - 1]? with _ | y
    · rw [hy] at hc; cases hc
    · rw [hy] at hc
      injection hc with hc
      subst hc
      dsimp only
      obtain ⟨h1, h2⟩ := List.getElem?_eq_some_iff.1 hx
      obtain ⟨h3, h4⟩ := List.getElem?_eq_some_iff.1 hy
      have h5 := (List.pairwise_iff_getElem.1 hs) (i - 1) i h3 h1 (by omega)
      omega
/-- the columns of which some are other ones -/
structure Gv {α : Type} (all : List α) (bs : List Bool) (z : α) (i : Nat) (g : List α) : Prop where
  len : g.length = all.length
  at' : ∀ j, j < all.length → g[j]? = if j < i ∧ bs.getD j false = true then some z else all[j]?
theorem Gv.start {α : Type} (all : List α) (bs : List Bool) (z : α) : Gv all bs z 0 all := ⟨rfl, fun j _ => by rw [if_neg (by omega)]⟩
theorem Gv.skip {α : Type} {all g : List α} {bs : List Bool} {z : α} {i : Nat} (h : Gv all bs z i g) (hb : bs.getD i false = false) : Gv all bs z (i + 1) g := ⟨h.len, fun j hj => by
  rw [h.at' j hj]
  by_cases e : j = i
  · subst e
    rw [if_neg (by omega), if_neg (by rw [hb]; simp)]
  · by_cases e2 : j < i ∧ bs.getD j false = true
    · rw [if_pos e2, if_pos ⟨by omega, e2.2⟩]
    · rw [if_neg e2, if_neg (fun h => e2 ⟨by omega, h.2⟩)]⟩
theorem Gv.put {α : Type} {all g : List α} {bs : List Bool} {z : α} {i : Nat} (h : Gv all bs z i g) (hb : bs.getD i false = true) (hi : i < all.length) : Gv all bs z (i + 1) (g.set i z) := ⟨by rw [List.length_set]; exact h.len, fun j hj => by
  by_cases e : j = i
  · subst e
    rw [List.getElem?_set_self (by rw [h.len]; exact hj), if_pos ⟨by omega, hb⟩]
  · rw [List.getElem?_set_ne (fun e2 => e e2.symm), h.at' j hj]
    by_cases e2 : j < i ∧ bs.getD j false = true
    · rw [if_pos e2, if_pos ⟨by omega, e2.2⟩]
    · rw [if_neg e2, if_neg (fun h => e2 ⟨by omega, h.2⟩)]⟩
theorem Gv.mem {α : Type} {all g : List α} {bs : List Bool} {z : α} {i : Nat} (h : Gv all bs z i g) {x : α} (hx : x ∈ g) : x ∈ all ∨ x = z := by
  obtain ⟨j, hj⟩ := List.getElem?_of_mem hx
  have hl := (List.getElem?_eq_some_iff.1 hj).1
  rw [h.at' j (by rw [← h.len]; exact hl)] at hj
  split at hj
  · injection hj with hj
    exact .inr hj.symm
  · exact .inl (List.mem_of_getElem? hj)
theorem Gv.keep {α : Type} {all g : List α} {bs : List Bool} {z : α} {i : Nat} (h : Gv all bs z i g) {j : Nat} (hj : j < all.length) (hb : ¬ (j < i ∧ bs.getD j false = true)) : g[j]? = all[j]? := by rw [h.at' j hj, if_neg hb]
/-- whole columns and their parities are what is rebuilt of them -/
theorem rb_whole {A G : List (List UInt8)} {bad : List Int} {k n : Nat} (hl : A.length = k + 3) (hall : ∀ y ∈ A, y.length = n) (hpar : ∀ q, q < 3 → A[k + q]? = some (prow (wtq q) (A.take k) n k)) (hk : ∀ j, j < k + 3 → (j : Int) ∉ bad → G[j]? = A[j]?) : RB G bad k n A :=
  ⟨hl, hall, fun j hj hb => (hk j hj hb).symm, fun q hq _ => hpar q hq⟩
theorem even_whole {A G : List (List UInt8)} {bad : List Int} {N n : Nat} (hl : A.length = N) (hg : G.length = N) (hn : 1 ≤ n ∧ n ≤ 4096) (hall : ∀ y ∈ A, y.length = n) (hk : ∀ j, j < N → (j : Int) ∉ bad → G[j]? = A[j]?) {j : Nat} (hj : j < N) (hjb : (j : Int) ∉ bad) : EvenB G bad n := by
  refine ⟨hn, ?_, fun i x hx hi => ?_⟩
  · obtain ⟨x, hx⟩ : ∃ x, A[j]? = some x := ⟨_, List.getElem?_eq_getElem (by omega)⟩
    exact ⟨j, x, by rw [hk j hj hjb]; exact hx, hjb⟩
  · have hil := (List.getElem?_eq_some_iff.1 hx).1
    rw [hk i (by omega) hi] at hx
    exact hall x (List.mem_of_getElem? hx)
/-- of more columns than are bad, one is good -/
theorem good_one : ∀ (n : Nat) (bs : List Bool), (bdL bs n).length < n → ∃ j, j < n ∧ bs.getD j false = false
  | 0, _, h => absurd h (Nat.not_lt_zero _)
  | n + 1, bs, h => by
    by_cases hb : bs.getD n false = true
    · rw [bdL_next, if_pos hb, List.length_append] at h
      obtain ⟨j, h1, h2⟩ := good_one n bs (by simp at h; omega)
      exact ⟨j, by omega, h2⟩
    · exact ⟨n, Nat.lt_succ_self n, by simpa using hb⟩
end Go.HL
namespace Go.Proofs.Ytjdbjdgobhjbkaa
open Go.RowKit Go.HL
theorem xss_app2 (a b : List Rw) : xss (a ++ b) = xss a ++ xss b := by rw [xss, List.map_append]; rfl
theorem three_whole {cols : List (List UInt8)} {n q : Nat} (hq : q < 3) : (cols ++ three cols n cols.length)[cols.length + q]? = some (prow (wtq q) ((cols ++ three cols n cols.length).take cols.length) n cols.length) := by
  rw [List.take_left, List.getElem?_append_right (by omega), show cols.length + q - cols.length = q from by omega, three_at hq]
end Go.Proofs.Ytjdbjdgobhjbkaa
namespace Go.Proofs.Ytjdbjdgobhjbkaa
open Go.RowKit Go.HL

set_option maxHeartbeats 8000000 in
theorem parityHeals_bad {w : World} {aa ab aj : Option Addr} {ca cb cj : Nat} {ra : List Rw} {bx : List Int} {jk : List UInt8} (ha : RS (· < w.heap.size) w aa ca ra) (la : bounded ra) (hno : ¬ okM ra) :
    Calls Try.prog 9 [.agg #[.slice aa ra.length ca, .slice ab bx.length cb, .slice aj jk.length cj]].toArray w (Ret fun v w' => v = .bool true ∧ Chg Nob w w') := by
  have hw := Chg.refl Nob w
  refine Calls.of_WC Try.func9 rfl Try.ntmps9 (by simp) ?_
  refine WC.seq (WC.region (?_))
  refine WL.box rfl rfl ?_
  intro g_1 w_1 hge_1 hlt_1 hb_1 k_1
  have zs_k_1 := k_1.size
  replace ha := ha.pure k_1
  replace hw := hw.pure k_1
  refine WL.assign rfl rfl (WL.nil (WX.then_normal (WC.seq (WC.seq (WC.region (?_))))))
  refine WL.call eg_16 rfl rfl (known3_calls _) ?_
  rintro v w0 ⟨rfl, k0⟩
  have zs_k0 := k0.size
  replace ha := ha.pure k0
  replace hw := hw.pure k0
  replace hb_1 := hb_1.pure k0
  refine WL.not rfl rfl (WL.move rfl rfl (WL.want rfl rfl rfl (WL.fieldAddr (fld_41_0) rfl rfl (WL.want rfl rfl rfl (WL.loadB Try.isAgg22 hb_1 rfl rfl rfl (WL.want rfl rfl rfl (?_)))))))
  refine WL.call eg_17 rfl rfl (small_calls ha la) ?_
  rintro v w0 ⟨⟨s1, rfl⟩, k0⟩
  have zs_k0 := k0.size
  replace ha := ha.pure k0
  replace hw := hw.pure k0
  replace hb_1 := hb_1.pure k0
  rcases s1 with _ | _
  ·
    refine WL.want rfl rfl rfl (WL.not rfl rfl (WL.pickF rfl rfl rfl (WL.nil (WX.then_normal (WC.cond_true rfl (WC.seq (WC.region (?_))))))))
    refine WL.call eg_16 rfl rfl (known3_calls _) ?_
    rintro v w0 ⟨rfl, k0⟩
    have zs_k0 := k0.size
    replace ha := ha.pure k0
    replace hw := hw.pure k0
    replace hb_1 := hb_1.pure k0
    refine WL.assign rfl rfl (WL.nil (WX.then_normal (WC.ret (WX.then_ret (?_)))))
    refine WX.ret1 (.inl rfl) Try.results9 rfl ?_
    exact ⟨_, rfl, rfl, hw⟩
  ·
    refine WL.want rfl rfl rfl (WL.not rfl rfl (WL.pickF rfl rfl rfl (WL.nil (WX.then_normal (WC.cond_false rfl (WC.skip (WX.then_normal (?_))))))))
    refine WC.seq (WC.region (WL.fieldAddr (fld_41_0) rfl rfl (WL.loadB Try.isAgg22 hb_1 rfl rfl rfl (?_))))
    refine WL.call eg_21 rfl rfl (make_bad ha la.1 hno) ?_
    rintro v w0 ⟨rfl, k0⟩
    have zs_k0 := k0.size
    replace ha := ha.pure k0
    replace hw := hw.pure k0
    replace hb_1 := hb_1.pure k0
    refine WL.move rfl rfl (WL.extract rfl rfl rfl (WL.extract rfl rfl rfl (WL.assign rfl rfl (WL.assign rfl rfl (WL.nil (WX.then_normal (WC.seq (?_))))))))
    refine WC.seq (WC.region (WL.move rfl rfl (?_)))
    refine WL.neqT rfl rfl rfl (by first | rfl | omega | decide) ?_
    refine WL.nil (WX.then_normal (WC.cond_true rfl (WC.seq (WC.region (WL.move rfl rfl (?_))))))
    refine WL.eqlT rfl rfl rfl (by first | rfl | omega | decide) ?_
    refine WL.move rfl rfl (WL.want rfl rfl rfl (WL.move rfl rfl (WL.want rfl rfl rfl (WL.len Try.underlying22 rfl rfl (WL.want rfl rfl rfl (?_))))))
    refine WL.eqlT rfl rfl rfl (by first | rfl | omega | decide) ?_
    refine WL.pickT rfl rfl rfl (WL.assign rfl rfl (WL.nil (WX.then_normal (WC.ret (WX.then_ret (?_))))))
    refine WX.ret1 (.inl rfl) Try.results9 rfl ?_
    exact ⟨_, rfl, rfl, hw⟩
set_option maxHeartbeats 8000000 in
theorem parityHeals_good {w : World} {aa ab aj : Option Addr} {ca cb cj : Nat} {ra : List Rw} {bx : List Int} {jk : List UInt8} (ha : RS (· < w.heap.size) w aa ca ra) (hbx : RSl (· < w.heap.size) w ei ab cb bx) (hjk : RSl (· < w.heap.size) w eb aj cj jk) (la : bounded ra) (n : Nat) (h13 : ra.length ≤ 13) (hn : lenC (xss ra) = (n : Int)) :
    Calls Try.prog 9 [.agg #[.slice aa ra.length ca, .slice ab bx.length cb, .slice aj jk.length cj]].toArray w (Ret fun v w' => v = .bool true ∧ Chg Nob w w') := by
  have hw := Chg.refl Nob w
  have hpos := okM_pos2 (rs := ra) ⟨h13, by omega⟩
  obtain ⟨m0, hm, hn1, hn2, hne, hall⟩ := lenC_some (cols := xss ra) (by omega)
  have hmn : m0 = n := by omega
  subst hmn
  have hxl := xss_len ra
  refine Calls.of_WC Try.func9 rfl Try.ntmps9 (by simp) ?_
  refine WC.seq (WC.region (?_))
  refine WL.box rfl rfl ?_
  intro g_1 w_1 hge_1 hlt_1 hb_1 k_1
  have zs_k_1 := k_1.size
  replace ha := ha.pure k_1
  replace hbx := hbx.pure k_1
  replace hjk := hjk.pure k_1
  replace hw := hw.pure k_1
  refine WL.assign rfl rfl (WL.nil (WX.then_normal (WC.seq (WC.seq (WC.region (?_))))))
  refine WL.call eg_16 rfl rfl (known3_calls _) ?_
  rintro v w0 ⟨rfl, k0⟩
  have zs_k0 := k0.size
  replace ha := ha.pure k0
  replace hbx := hbx.pure k0
  replace hjk := hjk.pure k0
  replace hw := hw.pure k0
  replace hb_1 := hb_1.pure k0
  refine WL.not rfl rfl (WL.move rfl rfl (WL.want rfl rfl rfl (WL.fieldAddr (fld_41_0) rfl rfl (WL.want rfl rfl rfl (WL.loadB Try.isAgg22 hb_1 rfl rfl rfl (WL.want rfl rfl rfl (?_)))))))
  refine WL.call eg_17 rfl rfl (small_calls ha la) ?_
  rintro v w0 ⟨⟨s1, rfl⟩, k0⟩
  have zs_k0 := k0.size
  replace ha := ha.pure k0
  replace hbx := hbx.pure k0
  replace hjk := hjk.pure k0
  replace hw := hw.pure k0
  replace hb_1 := hb_1.pure k0
  rcases s1 with _ | _
  ·
    refine WL.want rfl rfl rfl (WL.not rfl rfl (WL.pickF rfl rfl rfl (WL.nil (WX.then_normal (WC.cond_true rfl (WC.seq (WC.region (?_))))))))
    refine WL.call eg_16 rfl rfl (known3_calls _) ?_
    rintro v w0 ⟨rfl, k0⟩
    have zs_k0 := k0.size
    replace ha := ha.pure k0
    replace hbx := hbx.pure k0
    replace hjk := hjk.pure k0
    replace hw := hw.pure k0
    replace hb_1 := hb_1.pure k0
    refine WL.assign rfl rfl (WL.nil (WX.then_normal (WC.ret (WX.then_ret (?_)))))
    refine WX.ret1 (.inl rfl) Try.results9 rfl ?_
    exact ⟨_, rfl, rfl, hw⟩
  ·
    refine WL.want rfl rfl rfl (WL.not rfl rfl (WL.pickF rfl rfl rfl (WL.nil (WX.then_normal (WC.cond_false rfl (WC.skip (WX.then_normal (?_))))))))
    refine WC.seq (WC.region (WL.fieldAddr (fld_41_0) rfl rfl (WL.loadB Try.isAgg22 hb_1 rfl rfl rfl (?_))))
    refine WL.call eg_21 rfl rfl (make_rs ha h13 hn) ?_
    rintro v w0 ⟨⟨ap, cp, ps, rfl, hp, hps⟩, k0⟩
    have zs_k0 := k0.size
    replace ha := ha.pure k0
    replace hbx := hbx.pure k0
    replace hjk := hjk.pure k0
    replace hw := hw.pure k0
    replace hb_1 := hb_1.pure k0
    replace hp := hp.old
    refine WL.move rfl rfl (WL.extract rfl rfl rfl (WL.extract rfl rfl rfl (WL.assign rfl rfl (WL.assign rfl rfl (WL.nil (WX.then_normal (WC.seq (?_))))))))
    refine WC.seq (WC.region (WL.move rfl rfl (?_)))
    refine WL.neqF rfl rfl rfl (by first | rfl | omega | decide) ?_
    refine WL.nil (WX.then_normal (WC.cond_false rfl (WC.skip (WX.then_normal (WC.seq (WC.region (?_)))))))
    refine WL.build (e := erow) [] Try.underlying22 Try.sizeOf23 Try.zeroValue23 rfl rfl rfl (by first | (simp [Value.cells]; done) | (simp [Value.cells] <;> rfl) | (simp [Value.cells, eb, ei, es, ebool, e32, e64]; done)) (by decide) rfl ?_
    intro a_b0 w_b0 b0 l_b0 z_b0 k_b0
    have zs_k_b0 := k_b0.size
    replace ha := ha.pure k_b0
    replace hbx := hbx.pure k_b0
    replace hjk := hjk.pure k_b0
    replace hw := hw.pure k_b0
    replace hb_1 := hb_1.pure k_b0
    replace hp := hp.pure k_b0
    refine WL.fieldAddr (fld_41_0) rfl rfl (WL.loadB Try.isAgg22 hb_1 rfl rfl rfl (?_))
    refine WL.append0 (e := erow) info_23 rfl Try.underlying22 rfl rfl b0 (ha.outer.src Try.underlying22) hpos (by constructor <;> omega) rfl ?_
    intro g2 c2 w2 hb2 k2 eg2 z2
    have hps3 : ps.length = 3 := by rw [← xss_len, hps]; rfl
    have zs_k2 := k2.size
    replace ha := ha.pure k2
    replace hbx := hbx.pure k2
    replace hjk := hjk.pure k2
    replace hw := hw.pure k2
    replace hb_1 := hb_1.pure k2
    replace hp := hp.pure k2
    refine WL.move rfl rfl (?_)
    have hpal : ∀ y ∈ xss ps, y.length = m0 := by
      rw [hps]
      intro y hy
      simp only [three, List.mem_cons, List.not_mem_nil, or_false] at hy
      rcases hy with rfl | rfl | rfl <;> exact prow_len hall (by omega)
    refine WL.append (e := erow) info_23 rfl Try.underlying22 rfl rfl (hb2.mono (S' := fun x => g2 ≤ x) (fun b h => by have h3 : b = g2 := h; omega)) (hp.outer.src Try.underlying22) (by constructor <;> omega) (fun b hb => by omega) rfl ?_
    intro ao3 c3 w3 hb3 gg3 n3
    have gc : Chg (fun x => x = g2) _ w3 := gg3.chg.mono (by rintro x _ ⟨⟨a, ea, rfl⟩, _⟩; injection ea with ea; rw [← ea])
    have zs_gc := gc.size
    replace ha := ha.chg gc (by first | (intro x h1 h2; exact h2) | (intro x h1 h2; have h3 : _ = _ := h2; exfalso; omega) | (intro b h1 h2 h3; have h4 : _ = _ := h3; (try dsimp only at h2); exfalso; omega) | (intro h1; have h2 : _ = _ := h1; exfalso; omega) | (intro h1; have h2 : _ ≤ _ := h1; exfalso; omega) | (intros; exfalso; (try dsimp only at *); omega) | (intro b h1 h2 h3; exfalso; have h4 := h3.2; (try dsimp only at *); omega) | (intro h1; exfalso; have h4 := h1.2; (try dsimp only at *); omega))
    replace hbx := hbx.chg gc (by first | (intro x h1 h2; exact h2) | (intro x h1 h2; have h3 : _ = _ := h2; exfalso; omega) | (intro b h1 h2 h3; have h4 : _ = _ := h3; (try dsimp only at h2); exfalso; omega) | (intro h1; have h2 : _ = _ := h1; exfalso; omega) | (intro h1; have h2 : _ ≤ _ := h1; exfalso; omega) | (intros; exfalso; (try dsimp only at *); omega) | (intro b h1 h2 h3; exfalso; have h4 := h3.2; (try dsimp only at *); omega) | (intro h1; exfalso; have h4 := h1.2; (try dsimp only at *); omega))
    replace hjk := hjk.chg gc (by first | (intro x h1 h2; exact h2) | (intro x h1 h2; have h3 : _ = _ := h2; exfalso; omega) | (intro b h1 h2 h3; have h4 : _ = _ := h3; (try dsimp only at h2); exfalso; omega) | (intro h1; have h2 : _ = _ := h1; exfalso; omega) | (intro h1; have h2 : _ ≤ _ := h1; exfalso; omega) | (intros; exfalso; (try dsimp only at *); omega) | (intro b h1 h2 h3; exfalso; have h4 := h3.2; (try dsimp only at *); omega) | (intro h1; exfalso; have h4 := h1.2; (try dsimp only at *); omega))
    replace hw := hw.chg gc (by first | (intro x h1 h2; exact h2) | (intro x h1 h2; have h3 : _ = _ := h2; exfalso; omega) | (intro b h1 h2 h3; have h4 : _ = _ := h3; (try dsimp only at h2); exfalso; omega) | (intro h1; have h2 : _ = _ := h1; exfalso; omega) | (intro h1; have h2 : _ ≤ _ := h1; exfalso; omega) | (intros; exfalso; (try dsimp only at *); omega) | (intro b h1 h2 h3; exfalso; have h4 := h3.2; (try dsimp only at *); omega) | (intro h1; exfalso; have h4 := h1.2; (try dsimp only at *); omega))
    replace hb_1 := hb_1.chg gc (by first | (intro x h1 h2; exact h2) | (intro x h1 h2; have h3 : _ = _ := h2; exfalso; omega) | (intro b h1 h2 h3; have h4 : _ = _ := h3; (try dsimp only at h2); exfalso; omega) | (intro h1; have h2 : _ = _ := h1; exfalso; omega) | (intro h1; have h2 : _ ≤ _ := h1; exfalso; omega) | (intros; exfalso; (try dsimp only at *); omega) | (intro b h1 h2 h3; exfalso; have h4 := h3.2; (try dsimp only at *); omega) | (intro h1; exfalso; have h4 := h1.2; (try dsimp only at *); omega))
    replace hp := hp.chg gc (by first | (intro x h1 h2; exact h2) | (intro x h1 h2; have h3 : _ = _ := h2; exfalso; omega) | (intro b h1 h2 h3; have h4 : _ = _ := h3; (try dsimp only at h2); exfalso; omega) | (intro h1; have h2 : _ = _ := h1; exfalso; omega) | (intro h1; have h2 : _ ≤ _ := h1; exfalso; omega) | (intros; exfalso; (try dsimp only at *); omega) | (intro b h1 h2 h3; exfalso; have h4 := h3.2; (try dsimp only at *); omega) | (intro h1; exfalso; have h4 := h1.2; (try dsimp only at *); omega))
    refine WL.assign rfl rfl (WL.nil (WX.then_normal (WC.seq (WC.region (WL.move rfl rfl (?_))))))
    have hR : RS (fun _ => True) _ ao3 c3 (ra ++ ps) := ⟨hb3.rsl.mono (fun _ _ => trivial), fun r hr => (List.mem_append.1 hr).elim (fun h => (ha.inner r h).mono (fun _ _ => trivial)) (fun h => (hp.inner r h).mono (fun _ _ => trivial))⟩
    replace hR := hR.old
    obtain ⟨AL, hAL⟩ : ∃ AL, AL = ra ++ ps := ⟨_, rfl⟩
    have hLn : AL.length = ra.length + 3 := by rw [hAL, List.length_append, hps3]
    have hxa : xss AL = xss ra ++ three (xss ra) m0 (xss ra).length := by rw [hAL, xss_app2, hps, hxl]
    have hax : ∀ y ∈ xss AL, y.length = m0 := fun y hy => by
      rw [hAL, xss_app2] at hy
      rcases List.mem_append.1 hy with h1 | h1
      ·
        exact hall y h1
      ·
        exact hpal y h1
    have hxL : (xss AL).length = ra.length + 3 := by rw [xss_len, hLn]
    rw [← hAL] at hR ⊢
    have hlc : lenC (xss AL) = (m0 : Int) := by
      rw [lenC_of (fun e => by rw [e] at hxL; simp at hxL) hax, if_pos ⟨hn1, hn2⟩]
    have hright : rightR AL := ⟨by omega, by omega, by omega⟩
    have hchk : chk AL m0 = true := by
      rw [chk, show AL.length - 3 = (xss ra).length from by omega, hxa, List.take_left, List.drop_left]
      exact decide_eq_true rfl
    refine WL.call eg_22 rfl rfl (check_good hR hright hlc) ?_
    rintro v w5 ⟨rfl, k5⟩
    rw [hchk]
    have zs_k5 := k5.size
    replace ha := ha.pure k5
    replace hbx := hbx.pure k5
    replace hjk := hjk.pure k5
    replace hw := hw.pure k5
    replace hb_1 := hb_1.pure k5
    replace hR := hR.pure k5
    refine WL.move rfl rfl (WL.extract rfl rfl rfl (WL.extract rfl rfl rfl (WL.assign rfl rfl (WL.assign rfl rfl (WL.nil (WX.then_normal (WC.seq (?_))))))))
    refine WC.seq (WC.region (WL.move rfl rfl (?_)))
    refine WL.neqF rfl rfl rfl (by first | rfl | omega | decide) ?_
    refine WL.move rfl rfl (WL.want rfl rfl rfl (WL.move rfl rfl (WL.want rfl rfl rfl (WL.not rfl rfl (WL.pickF rfl rfl rfl (WL.nil (WX.then_normal (?_))))))))
    refine WC.cond_false rfl (WC.skip (WX.then_normal (WC.seq (WC.region (WL.move rfl rfl (WL.len Try.underlying22 rfl rfl (?_)))))))
    replace hR := hR.old
    refine WL.make (e := ebool) false AL.length AL.length Try.underlying44 info_4 rfl rfl rfl ⟨rfl, rfl, Nat.le_refl _⟩ (by constructor <;> omega) rfl ?_
    intro gb wb hB9 kb zb egb
    rw [List.length_replicate]
    have hB : Row (fun b => b = gb) wb 4 ebool (some ⟨gb, 0, none⟩) AL.length (List.replicate AL.length false) := ⟨fun a ea => by injection ea with ea; subst ea; rfl, hB9.own⟩
    have hRl := hR
    have zs_kb := kb.size
    replace ha := ha.pure kb
    replace hbx := hbx.pure kb
    replace hjk := hjk.pure kb
    replace hw := hw.pure kb
    replace hb_1 := hb_1.pure kb
    replace hR := hR.pure kb
    refine WL.assign rfl rfl (WL.nil (WX.then_normal (WC.seq (WC.seq (WC.region (WL.assign rfl rfl (WL.nil (?_))))))))
    refine WX.then_normal (WC.block (?_))
    have zw0 := hw.size
    have hgx : g_1 < gb := by omega
    replace hR := hR.mono (S' := fun b => b < gb) (fun b h => by omega)
    refine WC.loop (σ := Nat × List Bool) (fun s => [(1, .pointer (some ⟨g_1, 0, none⟩)), (5, .slice ao3 AL.length c3), (8, .slice (some ⟨gb, 0, none⟩) AL.length AL.length), (9, vi s.1)])
      (fun s w' => (s.1 ≤ bx.length ∧ s.1 ≤ 3) ∧ (s.2.length = AL.length ∧ (bdL s.2 AL.length).length ≤ s.1) ∧ Row (fun b => b = gb) w' 4 ebool (some ⟨gb, 0, none⟩) AL.length s.2 ∧ Blk w' g_1 41 [.slice aa ra.length ca, .slice ab bx.length cb, .slice aj jk.length cj] ∧ RS (fun b => b < gb) w' ao3 c3 AL ∧ RSl (· < w.heap.size) w' ei ab cb bx ∧ RSl (· < w.heap.size) w' eb aj cj jk ∧ Chg Nob w w') (fun s => 3 - s.1) (0, List.replicate AL.length false) ⟨rfl, rfl, rfl, rfl, trivial⟩ ⟨⟨Nat.zero_le _, Nat.zero_le _⟩, ⟨List.length_replicate, by rw [bdL_none]; exact Nat.le_refl _⟩, hB, hb_1, hR, hbx, hjk, hw⟩ ?_
    clear hB hB9 hb_1 hRl hR hbx hjk hw ha
    rintro ⟨i, bs⟩ w8 ⟨⟨hi, hi3⟩, ⟨hbl, hbd⟩, hB, hb_1, hR, hbx, hjk, hw⟩
    simp only at hi hi3 hbl hbd hB
    dsimp only
    refine WC.seq (WC.seq (WC.region (WL.move rfl rfl (WL.fieldAddr (fld_41_1) rfl rfl (WL.loadB Try.isAgg33 hb_1 rfl rfl rfl (WL.len Try.underlying33 rfl rfl (?_)))))))
    refine WL.lss? rfl rfl rfl (fun h65 => ?_) (fun h65 => ?_)
    ·
      refine WL.move rfl rfl (WL.want rfl rfl rfl (WL.move rfl rfl (WL.want rfl rfl rfl (?_))))
      refine WL.lss? rfl rfl rfl (fun h68 => ?_) (fun h68 => ?_)
      ·
        refine WL.pickT rfl rfl rfl (WL.nil (WX.then_normal (WC.cond_true rfl (WC.skip (WX.then_normal (WC.seq (WC.block (?_))))))))
        refine WC.region (WL.move rfl rfl (WL.fieldAddr (fld_41_1) rfl rfl (WL.loadB Try.isAgg33 hb_1 rfl rfl rfl (WL.move rfl rfl (?_)))))
        obtain ⟨b, hbi⟩ : ∃ b, bx[i]? = some b := ⟨_, List.getElem?_eq_getElem (by omega)⟩
        refine WL.indexT Try.underlying33 Try.sizeOf3 hbx rfl rfl ⟨hbi, rfl⟩ rfl ?_
        intro b_2 o_2 hc_2
        refine WL.load Try.isAgg3 rfl (hc_2 0 _ rfl) rfl (WL.c_i64_u64 Try.underlying3 Try.underlying45 rfl rfl (WL.move rfl rfl (WL.len Try.underlying22 rfl rfl (WL.c_i64_u64 Try.underlying3 Try.underlying45 rfl rfl (?_)))))
        refine WL.num rfl rfl (n_rem64 _ _ _ _ (by rw [B64_nat (by omega)]; omega)) rfl ?_
        have hp0 : (B64 b % B64 (AL.length : Int)).toNat < AL.length := by rw [UInt64.toNat_mod, B64_nat (by omega)]; exact Nat.mod_lt _ (by omega)
        obtain ⟨p, hpe⟩ : ∃ p, p = (B64 b % B64 (AL.length : Int)).toNat := ⟨_, rfl⟩
        refine WL.c_u64_i64s Try.underlying45 Try.underlying3 rfl ⟨hpe.symm, by omega⟩ rfl ?_
        refine WL.index (sz := 1) (j := p) Try.underlying44 Try.sizeOf4 rfl rfl rfl (by omega) rfl ?_
        refine WL.storeRow (z := true) p Try.sizeOf4 hB rfl rfl rfl (by show 0 + p * 1 = p; omega) (by omega) rfl ?_
        intro w9 z9 hB9 k9
        replace hb_1 := hb_1.chg k9 (fun h => by have h3 : g_1 = gb := h; omega)
        replace hR := hR.chg k9 (fun b _ h1 h2 => by have h3 : b = gb := h2; omega)
        replace hbx := hbx.chg k9 (fun b _ h1 h2 => by have h3 : b = gb := h2; omega)
        replace hjk := hjk.chg k9 (fun b _ h1 h2 => by have h3 : b = gb := h2; omega)
        replace hw := hw.chg k9 (fun x h0 h2 => by have h3 : x = gb := h2; omega)
        refine WL.nil (WX.block_normal (WX.then_normal (WC.region (WL.move rfl rfl (WL.add64 rfl rfl (by first | omega | (constructor <;> omega)) rfl (WL.assign rfl rfl (WL.nil (?_))))))))
        first
          | exact WX.loop_next (i + 1, bs.set p true) ⟨rfl, rfl, rfl, rfl, trivial⟩ ⟨⟨by show i + 1 ≤ _; omega, by show i + 1 ≤ 3; omega⟩, ⟨by show (bs.set p true).length = _; rw [List.length_set]; exact hbl, by show (bdL (bs.set p true) AL.length).length ≤ i + 1; have h1 := bdL_set bs p AL.length; rw [if_pos (by omega)] at h1; omega⟩, hB9, hb_1, hR, hbx, hjk, hw⟩ (by show 3 - (i + 1) < 3 - i; omega)
          | exact WX.loop_next (j + 1, (a9, c9), gs.set j ⟨aj, cj, jk⟩) ⟨rfl, rfl, rfl, rfl, rfl, rfl, trivial⟩ ⟨by show j + 1 ≤ _; omega, hG.put hbg2 (by omega), by show gv < _; omega, hV11, hA9, hB, hb_1, hR, hjk, hw⟩ (by show AL.length - (j + 1) < AL.length - j; omega)
          | (have e9 : li (bdL bs j) = li (bdL bs (j + 1)) := by
               rw [bdL_next, hbg2, if_neg (by decide), List.append_nil]
             rw [e9] at hA ⊢
             exact WX.loop_next (j + 1, (al, cl), gs) ⟨rfl, rfl, rfl, rfl, rfl, rfl, trivial⟩ ⟨by show j + 1 ≤ _; omega, hG.skip hbg2, hgv, hV, hA, hB, hb_1, hR, hjk, hw⟩ (by show AL.length - (j + 1) < AL.length - j; omega))
      ·
        refine WL.pickT rfl rfl rfl (WL.nil (WX.then_normal (WC.cond_false rfl (WC.exit (WX.then_exit (WX.then_exit (WX.block_here (?_))))))))
        refine WX.then_normal (WC.seq (WC.region (WL.assign rfl rfl (WL.nil (WX.then_normal (WC.seq (WC.region (?_))))))))
        refine WL.build (e := erow) [] Try.underlying22 Try.sizeOf23 Try.zeroValue23 rfl rfl rfl (by first | (simp [Value.cells]; done) | (simp [Value.cells] <;> rfl) | (simp [Value.cells, eb, ei, es, ebool, e32, e64]; done)) (by decide) rfl ?_
        intro a_b0 w_b0 b0 l_b0 z_b0 k_b0
        have zs_k_b0 := k_b0.size
        replace hB := hB.pure k_b0
        replace hb_1 := hb_1.pure k_b0
        replace hR := hR.pure k_b0
        replace hbx := hbx.pure k_b0
        replace hjk := hjk.pure k_b0
        replace hw := hw.pure k_b0
        refine WL.move rfl rfl (?_)
        replace hR := hR
        refine WL.append0 (e := erow) info_23 rfl Try.underlying22 rfl rfl b0 (hR.outer.src Try.underlying22) (by omega) (by constructor <;> omega) rfl ?_
        intro gv cv w2 hV k2 egv z2
        have hlB := hB.own.lt _ rfl
        have zs_k2 := k2.size
        replace hB := hB.pure k2
        replace hb_1 := hb_1.pure k2
        replace hR := hR.pure k2
        replace hbx := hbx.pure k2
        replace hjk := hjk.pure k2
        replace hw := hw.pure k2
        refine WL.assign rfl rfl (WL.nil (WX.then_normal (WC.seq (WC.seq (WC.region (WL.assign rfl rfl (WL.nil (?_))))))))
        refine WX.then_normal (WC.block (?_))
        have hbg : gb < gv := by have h3 : gb < _ := hlB; omega
        refine WC.loop (σ := Nat × (Option Addr × Nat) × List Rw) (fun s => [(1, .pointer (some ⟨g_1, 0, none⟩)), (5, .slice ao3 AL.length c3), (8, .slice (some ⟨gb, 0, none⟩) AL.length AL.length), (10, .slice s.2.1.1 (li (bdL bs s.1)).length s.2.1.2), (11, .slice (some ⟨gv, 0, none⟩) AL.length cv), (12, vi s.1)])
          (fun s w' => s.1 ≤ AL.length ∧ Gv AL bs ⟨aj, cj, jk⟩ s.1 s.2.2 ∧ gv < w'.heap.size ∧ Row (fun b => b = gv) w' 23 erow (some ⟨gv, 0, none⟩) cv s.2.2 ∧ Row (fun b => gv < b) w' 3 ei s.2.1.1 s.2.1.2 (li (bdL bs s.1)) ∧ Row (fun b => b = gb) w' 4 ebool (some ⟨gb, 0, none⟩) AL.length bs ∧ Blk w' g_1 41 [.slice aa ra.length ca, .slice ab bx.length cb, .slice aj jk.length cj] ∧ RS (fun b => b < gb) w' ao3 c3 AL ∧ RSl (· < w.heap.size) w' eb aj cj jk ∧ Chg Nob w w') (fun s => AL.length - s.1) (0, (none, 0), AL) ⟨rfl, rfl, rfl, rfl, rfl, rfl, trivial⟩ ⟨Nat.zero_le _, Gv.start _ _ _, by omega, hV, Row.nil _ _ _ _, hB, hb_1, hR, hjk, hw⟩ ?_
        clear hV hB hb_1 hR hbx hjk hw
        rintro ⟨j, ⟨al, cl⟩, gs⟩ w9 ⟨hj, hG, hgv, hV, hA, hB, hb_1, hR, hjk, hw⟩
        simp only at hj hG hV hA
        dsimp only
        have hgl := hG.len
        refine WC.seq (WC.seq (WC.region (WL.move rfl rfl (WL.move rfl rfl (WL.len Try.underlying22 rfl rfl (?_))))))
        refine WL.lss? rfl rfl rfl (fun h91 => ?_) (fun h91 => ?_)
        ·
          refine WL.nil (WX.then_normal (WC.cond_true rfl (WC.skip (WX.then_normal (WC.seq (WC.block (WC.seq (?_))))))))
          refine WC.region (WL.move rfl rfl (WL.move rfl rfl (?_)))
          obtain ⟨bj, hbj⟩ : ∃ b, bs[j]? = some b := ⟨_, List.getElem?_eq_getElem (by omega)⟩
          have hbg2 : bs.getD j false = bj := by rw [List.getD_eq_getElem?_getD, hbj]; rfl
          refine WL.indexT (e := ebool) Try.underlying44 Try.sizeOf4 hB.rsl (by show some (Value.slice _ AL.length _) = some (Value.slice _ bs.length _); rw [hbl]) rfl ⟨hbj, rfl⟩ rfl ?_
          intro bb oo hcc
          refine WL.load Try.isAgg4 rfl (hcc 0 _ rfl) rfl ?_
          rcases bj with _ | _
          ·
            refine WL.nil (WX.then_normal (WC.cond_false rfl (WC.skip (WX.block_normal (WX.then_normal (WC.region (WL.move rfl rfl (?_))))))))
            refine WL.add64 rfl rfl (by first | omega | (constructor <;> omega)) rfl (WL.assign rfl rfl (WL.nil (?_)))
            first
              | exact WX.loop_next (i + 1, bs.set p true) ⟨rfl, rfl, rfl, rfl, trivial⟩ ⟨⟨by show i + 1 ≤ _; omega, by show i + 1 ≤ 3; omega⟩, ⟨by show (bs.set p true).length = _; rw [List.length_set]; exact hbl, by show (bdL (bs.set p true) AL.length).length ≤ i + 1; have h1 := bdL_set bs p AL.length; rw [if_pos (by omega)] at h1; omega⟩, hB9, hb_1, hR, hbx, hjk, hw⟩ (by show 3 - (i + 1) < 3 - i; omega)
              | exact WX.loop_next (j + 1, (a9, c9), gs.set j ⟨aj, cj, jk⟩) ⟨rfl, rfl, rfl, rfl, rfl, rfl, trivial⟩ ⟨by show j + 1 ≤ _; omega, hG.put hbg2 (by omega), by show gv < _; omega, hV11, hA9, hB, hb_1, hR, hjk, hw⟩ (by show AL.length - (j + 1) < AL.length - j; omega)
              | (have e9 : li (bdL bs j) = li (bdL bs (j + 1)) := by
                   rw [bdL_next, hbg2, if_neg (by decide), List.append_nil]
                 rw [e9] at hA ⊢
                 exact WX.loop_next (j + 1, (al, cl), gs) ⟨rfl, rfl, rfl, rfl, rfl, rfl, trivial⟩ ⟨by show j + 1 ≤ _; omega, hG.skip hbg2, hgv, hV, hA, hB, hb_1, hR, hjk, hw⟩ (by show AL.length - (j + 1) < AL.length - j; omega))
          ·
            refine WL.nil (WX.then_normal (WC.cond_true rfl (WC.seq (WC.region (WL.move rfl rfl (WL.move rfl rfl (?_)))))))
            refine WL.build (e := ei) [(j : Int)] Try.underlying33 Try.sizeOf3 Try.zeroValue3 rfl rfl rfl (by first | (simp [Value.cells]; done) | (simp [Value.cells] <;> rfl) | (simp [Value.cells, eb, ei, es, ebool, e32, e64]; done)) (by decide) rfl ?_
            intro a_qn w_qn qn l_qn z_qn k_qn
            have zs_k_qn := k_qn.size
            replace hV := hV.pure k_qn
            replace hA := hA.pure k_qn
            replace hB := hB.pure k_qn
            replace hb_1 := hb_1.pure k_qn
            replace hR := hR.pure k_qn
            replace hjk := hjk.pure k_qn
            replace hw := hw.pure k_qn
            have hll := bdL_len bs j
            refine WL.append (e := ei) (xs := li (bdL bs j)) (S := fun b => gv < b) info_3 rfl Try.underlying33 rfl rfl hA (qn.rsl.src Try.underlying33) (by constructor <;> (simp only [List.length_cons, List.length_nil, li_len]; omega)) (fun b hb => by omega) rfl ?_
            intro a9 c9 w10 hA9 g9 n9
            have k9 := g9.chg
            have zk9 := k9.size
            replace hV := hV.chg k9 (fun b _ h1 h2 => by have := h2.2; have h3 : b = gv := h1; omega)
            replace hB := hB.chg k9 (fun b _ h1 h2 => by have := h2.2; have h3 : b = gb := h1; omega)
            replace hb_1 := hb_1.chg k9 (fun h2 => by have := h2.2; omega)
            replace hR := hR.chg k9 (fun b _ h1 h2 => by have := h2.2; omega)
            replace hjk := hjk.chg k9 (fun b _ h1 h2 => by have := h2.2; omega)
            replace hw := hw.chg k9 (fun x h0 h2 => by have := h2.2; omega)
            have e9 : li (bdL bs j) ++ [(j : Int)] = li (bdL bs (j + 1)) := by
              rw [bdL_next, hbg2, if_pos rfl, li_app]
              rfl
            rw [e9] at hA9 ⊢
            refine WL.assign rfl rfl (WL.nil (WX.then_normal (WC.region (WL.move rfl rfl (WL.move rfl rfl (WL.fieldAddr (fld_41_2) rfl rfl (WL.loadB Try.isAgg23 hb_1 rfl rfl rfl (?_))))))))
            refine WL.index (sz := 1) (j := j) Try.underlying22 Try.sizeOf23 rfl rfl rfl (by omega) rfl ?_
            refine WL.storeRow (z := ⟨aj, cj, jk⟩) j Try.sizeOf23 hV rfl rfl rfl (by show 0 + j * 1 = j; omega) (by omega) rfl ?_
            intro w11 z11 hV11 k11
            replace hA9 := hA9.chg k11 (fun b _ h1 h2 => by have h3 : b = gv := h2; omega)
            replace hB := hB.chg k11 (fun b _ h1 h2 => by have h3 : b = gv := h2; have h4 : b = gb := h1; omega)
            replace hb_1 := hb_1.chg k11 (fun h2 => by have h3 : g_1 = gv := h2; omega)
            replace hR := hR.chg k11 (fun b _ h1 h2 => by have h3 : b = gv := h2; omega)
            replace hjk := hjk.chg k11 (fun b _ h1 h2 => by have h3 : b = gv := h2; omega)
            replace hw := hw.chg k11 (fun x h0 h2 => by have h3 : x = gv := h2; omega)
            refine WL.nil (WX.block_normal (WX.then_normal (WC.region (WL.move rfl rfl (WL.add64 rfl rfl (by first | omega | (constructor <;> omega)) rfl (WL.assign rfl rfl (WL.nil (?_))))))))
            first
              | exact WX.loop_next (i + 1, bs.set p true) ⟨rfl, rfl, rfl, rfl, trivial⟩ ⟨⟨by show i + 1 ≤ _; omega, by show i + 1 ≤ 3; omega⟩, ⟨by show (bs.set p true).length = _; rw [List.length_set]; exact hbl, by show (bdL (bs.set p true) AL.length).length ≤ i + 1; have h1 := bdL_set bs p AL.length; rw [if_pos (by omega)] at h1; omega⟩, hB9, hb_1, hR, hbx, hjk, hw⟩ (by show 3 - (i + 1) < 3 - i; omega)
              | exact WX.loop_next (j + 1, (a9, c9), gs.set j ⟨aj, cj, jk⟩) ⟨rfl, rfl, rfl, rfl, rfl, rfl, trivial⟩ ⟨by show j + 1 ≤ _; omega, hG.put hbg2 (by omega), by show gv < _; omega, hV11, hA9, hB, hb_1, hR, hjk, hw⟩ (by show AL.length - (j + 1) < AL.length - j; omega)
              | (have e9 : li (bdL bs j) = li (bdL bs (j + 1)) := by
                   rw [bdL_next, hbg2, if_neg (by decide), List.append_nil]
                 rw [e9] at hA ⊢
                 exact WX.loop_next (j + 1, (al, cl), gs) ⟨rfl, rfl, rfl, rfl, rfl, rfl, trivial⟩ ⟨by show j + 1 ≤ _; omega, hG.skip hbg2, hgv, hV, hA, hB, hb_1, hR, hjk, hw⟩ (by show AL.length - (j + 1) < AL.length - j; omega))
        ·
          refine WL.nil (WX.then_normal (WC.cond_false rfl (WC.exit (WX.then_exit (WX.then_exit (WX.block_here (WX.then_normal (?_))))))))
          refine WC.seq (WC.seq (WC.region (WL.move rfl rfl (WL.len Try.underlying33 rfl rfl (WL.move rfl rfl (WL.len Try.underlying22 rfl rfl (?_)))))))
          have hjL : j = AL.length := by omega
          subst hjL
          refine WL.eqlF rfl rfl rfl (by rw [li_len]; omega) ?_
          refine WL.nil (WX.then_normal (WC.cond_false rfl (WC.skip (WX.then_normal (WC.seq (WC.region (WL.move rfl rfl (?_))))))))
          refine WL.move rfl rfl (?_)
          obtain ⟨bad, hbad⟩ : ∃ bad, bad = li (bdL bs AL.length) := ⟨_, rfl⟩
          have hbad3 : bad.length ≤ 3 := by rw [hbad, li_len]; omega
          have hkeep : ∀ j, j < ra.length + 3 → (j : Int) ∉ bad → (xss gs)[j]? = (xss AL)[j]? := fun j h1 h2 => by
            rw [xss, List.getElem?_map, hG.keep (by omega) (fun h => h2 (by rw [hbad]; exact bdL_int.2 h)), xss, List.getElem?_map]
          have hGS : RS (fun _ => True) _ (some ⟨gv, 0, none⟩) cv gs := ⟨hV.rsl.mono (fun _ _ => trivial), fun r hr => by
            rcases hG.mem hr with h1 | h1
            ·
              exact (hR.inner r h1).mono (fun _ _ => trivial)
            ·
              rw [h1]; exact hjk.mono (fun _ _ => trivial)⟩
          obtain ⟨j0, hj0, hjb⟩ := good_one AL.length bs (by omega)
          have hev : EvenB (xss gs) bad m0 := even_whole (A := xss AL) (N := ra.length + 3) (by omega) (by rw [xss_len]; omega) ⟨hn1, hn2⟩ hax hkeep (j := j0) (by omega) (fun h => by rw [hbad] at h; rw [(bdL_int.1 h).2] at hjb; cases hjb)
          have herr : errB (xss gs) bad = 0 := by
            rw [errB_ok (by rw [xss_len]; omega) (by rw [xss_len, hG.len, hbad]; exact bdL_ok bs _) (by rw [lenB_of hev]; omega), if_pos hbad3]
          have hAb := hA.rsl
          rw [← hbad] at hAb ⊢
          have hg := rebuild_good hGS hAb (k := ra.length) (by omega) ⟨hpos, h13⟩ herr hbad3 (lenB_of hev) hev
          rw [show gs.length = AL.length from hG.len] at hg
          refine WL.call eg_19 rfl rfl (hg) ?_
          rintro v w12 ⟨⟨go, N, p2, rfl, hO, hgo, hRB⟩, k12⟩
          have hRB2 : RB (xss gs) bad ra.length m0 (xss AL) := rb_whole (by omega) hax (fun q hq => by rw [hxa, ← hxl]; exact three_whole hq) hkeep
          have hx2 : xss p2 = xss AL := RB.uniq h13 hbad3 hRB hRB2
          have hl2 : p2.length = AL.length := by rw [← xss_len, hx2, xss_len]
          have hp2 := (hO.toRS (S := fun _ => True) (fun _ _ _ => trivial)).old
          rw [show Value.slice (some ⟨go, 0, none⟩) (ra.length + 3) (ra.length + 3) = Value.slice (some ⟨go, 0, none⟩) p2.length p2.length from by rw [hl2, hLn]]
          have zs_k12 := k12.size
          replace hB := hB.pure k12
          replace hb_1 := hb_1.pure k12
          replace hR := hR.pure k12
          replace hjk := hjk.pure k12
          replace hw := hw.pure k12
          refine WL.move rfl rfl (WL.extract rfl rfl rfl (WL.extract rfl rfl rfl (WL.assign rfl rfl (WL.assign rfl rfl (WL.nil (WX.then_normal (WC.seq (?_))))))))
          refine WC.seq (WC.region (WL.move rfl rfl (?_)))
          refine WL.neqF rfl rfl rfl (by first | rfl | omega | decide) ?_
          refine WL.move rfl rfl (WL.want rfl rfl rfl (WL.move rfl rfl (WL.want rfl rfl rfl (WL.move rfl rfl (WL.want rfl rfl rfl (?_))))))
          refine WL.call eg_20 rfl rfl (same_calls hp2 hR (by omega)) ?_
          rintro v w13 ⟨rfl, k13⟩
          rw [hx2, show decide (xss AL = xss AL) = true from decide_eq_true rfl]
          have zs_k13 := k13.size
          replace hB := hB.pure k13
          replace hb_1 := hb_1.pure k13
          replace hR := hR.pure k13
          replace hjk := hjk.pure k13
          replace hw := hw.pure k13
          replace hp2 := hp2.pure k13
          refine WL.want rfl rfl rfl (WL.not rfl rfl (WL.pickF rfl rfl rfl (WL.nil (WX.then_normal (WC.cond_false rfl (WC.skip (WX.then_normal (?_))))))))
          refine WC.seq (WC.seq (WC.region (WL.move rfl rfl (WL.len Try.underlying22 rfl rfl (?_)))))
          refine WL.lss? rfl rfl rfl (fun h128 => ?_) (fun h128 => ?_)
          ·
            refine WL.nil (WX.then_normal (WC.cond_true rfl (WC.seq (WC.region (WL.assign rfl rfl (WL.nil (WX.then_normal (?_))))))))
            refine WC.ret (WX.then_ret (?_))
            refine WX.ret1 (.inl rfl) Try.results9 rfl ?_
            exact ⟨_, rfl, rfl, hw⟩
          ·
            refine WL.nil (WX.then_normal (WC.cond_false rfl (WC.skip (WX.then_normal (WC.seq (WC.region (WL.move rfl rfl (?_))))))))
            refine WL.build (e := ei) [0, 1, 2, 3] Try.underlying33 Try.sizeOf3 Try.zeroValue3 rfl rfl rfl (by first | (simp [Value.cells]; done) | (simp [Value.cells] <;> rfl) | (simp [Value.cells, eb, ei, es, ebool, e32, e64]; done)) (by decide) rfl ?_
            intro a_b131 w_b131 b131 l_b131 z_b131 k_b131
            have zs_k_b131 := k_b131.size
            replace hB := hB.pure k_b131
            replace hb_1 := hb_1.pure k_b131
            replace hR := hR.pure k_b131
            replace hjk := hjk.pure k_b131
            replace hw := hw.pure k_b131
            replace hp2 := hp2.pure k_b131
            have hb56 := rebuild_bad hR b131.rsl (by omega) (by show 4 ≤ _; decide) (by rw [err_four (by omega) hax ⟨hn1, hn2⟩]; split <;> decide)
            rw [err_four (by omega) hax ⟨hn1, hn2⟩, if_neg (by omega)] at hb56
            refine WL.call eg_19 rfl rfl (hb56) ?_
            rintro v w8 ⟨rfl, k8⟩
            have zs_k8 := k8.size
            replace hB := hB.pure k8
            replace hb_1 := hb_1.pure k8
            replace hR := hR.pure k8
            replace hjk := hjk.pure k8
            replace hw := hw.pure k8
            replace hp2 := hp2.pure k8
            refine WL.move rfl rfl (WL.extract rfl rfl rfl (WL.extract rfl rfl rfl (WL.assign rfl rfl (WL.assign rfl rfl (WL.nil (WX.then_normal (WC.seq (?_))))))))
            refine WC.region (WL.move rfl rfl (WL.eql rfl rfl rfl (WL.assign rfl rfl (WL.nil (WX.then_normal (WC.ret (?_)))))))
            refine WX.ret1 (.inl rfl) Try.results9 rfl ?_
            exact ⟨_, rfl, rfl, hw⟩
    ·
      refine WL.move rfl rfl (WL.pass rfl rfl rfl rfl (WL.pass rfl rfl rfl rfl (WL.pickF rfl rfl rfl (WL.nil (WX.then_normal (WC.cond_false rfl (WC.exit (?_))))))))
      refine WX.then_exit (WX.then_exit (WX.block_here (WX.then_normal (WC.seq (WC.region (WL.assign rfl rfl (WL.nil (?_))))))))
      refine WX.then_normal (WC.seq (WC.region (?_)))
      refine WL.build (e := erow) [] Try.underlying22 Try.sizeOf23 Try.zeroValue23 rfl rfl rfl (by first | (simp [Value.cells]; done) | (simp [Value.cells] <;> rfl) | (simp [Value.cells, eb, ei, es, ebool, e32, e64]; done)) (by decide) rfl ?_
      intro a_b0 w_b0 b0 l_b0 z_b0 k_b0
      have zs_k_b0 := k_b0.size
      replace hB := hB.pure k_b0
      replace hb_1 := hb_1.pure k_b0
      replace hR := hR.pure k_b0
      replace hbx := hbx.pure k_b0
      replace hjk := hjk.pure k_b0
      replace hw := hw.pure k_b0
      refine WL.move rfl rfl (?_)
      replace hR := hR
      refine WL.append0 (e := erow) info_23 rfl Try.underlying22 rfl rfl b0 (hR.outer.src Try.underlying22) (by omega) (by constructor <;> omega) rfl ?_
      intro gv cv w2 hV k2 egv z2
      have hlB := hB.own.lt _ rfl
      have zs_k2 := k2.size
      replace hB := hB.pure k2
      replace hb_1 := hb_1.pure k2
      replace hR := hR.pure k2
      replace hbx := hbx.pure k2
      replace hjk := hjk.pure k2
      replace hw := hw.pure k2
      refine WL.assign rfl rfl (WL.nil (WX.then_normal (WC.seq (WC.seq (WC.region (WL.assign rfl rfl (WL.nil (?_))))))))
      refine WX.then_normal (WC.block (?_))
      have hbg : gb < gv := by have h3 : gb < _ := hlB; omega
      refine WC.loop (σ := Nat × (Option Addr × Nat) × List Rw) (fun s => [(1, .pointer (some ⟨g_1, 0, none⟩)), (5, .slice ao3 AL.length c3), (8, .slice (some ⟨gb, 0, none⟩) AL.length AL.length), (10, .slice s.2.1.1 (li (bdL bs s.1)).length s.2.1.2), (11, .slice (some ⟨gv, 0, none⟩) AL.length cv), (12, vi s.1)])
        (fun s w' => s.1 ≤ AL.length ∧ Gv AL bs ⟨aj, cj, jk⟩ s.1 s.2.2 ∧ gv < w'.heap.size ∧ Row (fun b => b = gv) w' 23 erow (some ⟨gv, 0, none⟩) cv s.2.2 ∧ Row (fun b => gv < b) w' 3 ei s.2.1.1 s.2.1.2 (li (bdL bs s.1)) ∧ Row (fun b => b = gb) w' 4 ebool (some ⟨gb, 0, none⟩) AL.length bs ∧ Blk w' g_1 41 [.slice aa ra.length ca, .slice ab bx.length cb, .slice aj jk.length cj] ∧ RS (fun b => b < gb) w' ao3 c3 AL ∧ RSl (· < w.heap.size) w' eb aj cj jk ∧ Chg Nob w w') (fun s => AL.length - s.1) (0, (none, 0), AL) ⟨rfl, rfl, rfl, rfl, rfl, rfl, trivial⟩ ⟨Nat.zero_le _, Gv.start _ _ _, by omega, hV, Row.nil _ _ _ _, hB, hb_1, hR, hjk, hw⟩ ?_
      clear hV hB hb_1 hR hbx hjk hw
      rintro ⟨j, ⟨al, cl⟩, gs⟩ w9 ⟨hj, hG, hgv, hV, hA, hB, hb_1, hR, hjk, hw⟩
      simp only at hj hG hV hA
      dsimp only
      have hgl := hG.len
      refine WC.seq (WC.seq (WC.region (WL.move rfl rfl (WL.move rfl rfl (WL.len Try.underlying22 rfl rfl (?_))))))
      refine WL.lss? rfl rfl rfl (fun h91 => ?_) (fun h91 => ?_)
      ·
        refine WL.nil (WX.then_normal (WC.cond_true rfl (WC.skip (WX.then_normal (WC.seq (WC.block (WC.seq (?_))))))))
        refine WC.region (WL.move rfl rfl (WL.move rfl rfl (?_)))
        obtain ⟨bj, hbj⟩ : ∃ b, bs[j]? = some b := ⟨_, List.getElem?_eq_getElem (by omega)⟩
        have hbg2 : bs.getD j false = bj := by rw [List.getD_eq_getElem?_getD, hbj]; rfl
        refine WL.indexT (e := ebool) Try.underlying44 Try.sizeOf4 hB.rsl (by show some (Value.slice _ AL.length _) = some (Value.slice _ bs.length _); rw [hbl]) rfl ⟨hbj, rfl⟩ rfl ?_
        intro bb oo hcc
        refine WL.load Try.isAgg4 rfl (hcc 0 _ rfl) rfl ?_
        rcases bj with _ | _
        ·
          refine WL.nil (WX.then_normal (WC.cond_false rfl (WC.skip (WX.block_normal (WX.then_normal (WC.region (WL.move rfl rfl (?_))))))))
          refine WL.add64 rfl rfl (by first | omega | (constructor <;> omega)) rfl (WL.assign rfl rfl (WL.nil (?_)))
          first
            | exact WX.loop_next (i + 1, bs.set p true) ⟨rfl, rfl, rfl, rfl, trivial⟩ ⟨⟨by show i + 1 ≤ _; omega, by show i + 1 ≤ 3; omega⟩, ⟨by show (bs.set p true).length = _; rw [List.length_set]; exact hbl, by show (bdL (bs.set p true) AL.length).length ≤ i + 1; have h1 := bdL_set bs p AL.length; rw [if_pos (by omega)] at h1; omega⟩, hB9, hb_1, hR, hbx, hjk, hw⟩ (by show 3 - (i + 1) < 3 - i; omega)
            | exact WX.loop_next (j + 1, (a9, c9), gs.set j ⟨aj, cj, jk⟩) ⟨rfl, rfl, rfl, rfl, rfl, rfl, trivial⟩ ⟨by show j + 1 ≤ _; omega, hG.put hbg2 (by omega), by show gv < _; omega, hV11, hA9, hB, hb_1, hR, hjk, hw⟩ (by show AL.length - (j + 1) < AL.length - j; omega)
            | (have e9 : li (bdL bs j) = li (bdL bs (j + 1)) := by
                 rw [bdL_next, hbg2, if_neg (by decide), List.append_nil]
               rw [e9] at hA ⊢
               exact WX.loop_next (j + 1, (al, cl), gs) ⟨rfl, rfl, rfl, rfl, rfl, rfl, trivial⟩ ⟨by show j + 1 ≤ _; omega, hG.skip hbg2, hgv, hV, hA, hB, hb_1, hR, hjk, hw⟩ (by show AL.length - (j + 1) < AL.length - j; omega))
        ·
          refine WL.nil (WX.then_normal (WC.cond_true rfl (WC.seq (WC.region (WL.move rfl rfl (WL.move rfl rfl (?_)))))))
          refine WL.build (e := ei) [(j : Int)] Try.underlying33 Try.sizeOf3 Try.zeroValue3 rfl rfl rfl (by first | (simp [Value.cells]; done) | (simp [Value.cells] <;> rfl) | (simp [Value.cells, eb, ei, es, ebool, e32, e64]; done)) (by decide) rfl ?_
          intro a_qn w_qn qn l_qn z_qn k_qn
          have zs_k_qn := k_qn.size
          replace hV := hV.pure k_qn
          replace hA := hA.pure k_qn
          replace hB := hB.pure k_qn
          replace hb_1 := hb_1.pure k_qn
          replace hR := hR.pure k_qn
          replace hjk := hjk.pure k_qn
          replace hw := hw.pure k_qn
          have hll := bdL_len bs j
          refine WL.append (e := ei) (xs := li (bdL bs j)) (S := fun b => gv < b) info_3 rfl Try.underlying33 rfl rfl hA (qn.rsl.src Try.underlying33) (by constructor <;> (simp only [List.length_cons, List.length_nil, li_len]; omega)) (fun b hb => by omega) rfl ?_
          intro a9 c9 w10 hA9 g9 n9
          have k9 := g9.chg
          have zk9 := k9.size
          replace hV := hV.chg k9 (fun b _ h1 h2 => by have := h2.2; have h3 : b = gv := h1; omega)
          replace hB := hB.chg k9 (fun b _ h1 h2 => by have := h2.2; have h3 : b = gb := h1; omega)
          replace hb_1 := hb_1.chg k9 (fun h2 => by have := h2.2; omega)
          replace hR := hR.chg k9 (fun b _ h1 h2 => by have := h2.2; omega)
          replace hjk := hjk.chg k9 (fun b _ h1 h2 => by have := h2.2; omega)
          replace hw := hw.chg k9 (fun x h0 h2 => by have := h2.2; omega)
          have e9 : li (bdL bs j) ++ [(j : Int)] = li (bdL bs (j + 1)) := by
            rw [bdL_next, hbg2, if_pos rfl, li_app]
            rfl
          rw [e9] at hA9 ⊢
          refine WL.assign rfl rfl (WL.nil (WX.then_normal (WC.region (WL.move rfl rfl (WL.move rfl rfl (WL.fieldAddr (fld_41_2) rfl rfl (WL.loadB Try.isAgg23 hb_1 rfl rfl rfl (?_))))))))
          refine WL.index (sz := 1) (j := j) Try.underlying22 Try.sizeOf23 rfl rfl rfl (by omega) rfl ?_
          refine WL.storeRow (z := ⟨aj, cj, jk⟩) j Try.sizeOf23 hV rfl rfl rfl (by show 0 + j * 1 = j; omega) (by omega) rfl ?_
          intro w11 z11 hV11 k11
          replace hA9 := hA9.chg k11 (fun b _ h1 h2 => by have h3 : b = gv := h2; omega)
          replace hB := hB.chg k11 (fun b _ h1 h2 => by have h3 : b = gv := h2; have h4 : b = gb := h1; omega)
          replace hb_1 := hb_1.chg k11 (fun h2 => by have h3 : g_1 = gv := h2; omega)
          replace hR := hR.chg k11 (fun b _ h1 h2 => by have h3 : b = gv := h2; omega)
          replace hjk := hjk.chg k11 (fun b _ h1 h2 => by have h3 : b = gv := h2; omega)
          replace hw := hw.chg k11 (fun x h0 h2 => by have h3 : x = gv := h2; omega)
          refine WL.nil (WX.block_normal (WX.then_normal (WC.region (WL.move rfl rfl (WL.add64 rfl rfl (by first | omega | (constructor <;> omega)) rfl (WL.assign rfl rfl (WL.nil (?_))))))))
          first
            | exact WX.loop_next (i + 1, bs.set p true) ⟨rfl, rfl, rfl, rfl, trivial⟩ ⟨⟨by show i + 1 ≤ _; omega, by show i + 1 ≤ 3; omega⟩, ⟨by show (bs.set p true).length = _; rw [List.length_set]; exact hbl, by show (bdL (bs.set p true) AL.length).length ≤ i + 1; have h1 := bdL_set bs p AL.length; rw [if_pos (by omega)] at h1; omega⟩, hB9, hb_1, hR, hbx, hjk, hw⟩ (by show 3 - (i + 1) < 3 - i; omega)
            | exact WX.loop_next (j + 1, (a9, c9), gs.set j ⟨aj, cj, jk⟩) ⟨rfl, rfl, rfl, rfl, rfl, rfl, trivial⟩ ⟨by show j + 1 ≤ _; omega, hG.put hbg2 (by omega), by show gv < _; omega, hV11, hA9, hB, hb_1, hR, hjk, hw⟩ (by show AL.length - (j + 1) < AL.length - j; omega)
            | (have e9 : li (bdL bs j) = li (bdL bs (j + 1)) := by
                 rw [bdL_next, hbg2, if_neg (by decide), List.append_nil]
               rw [e9] at hA ⊢
               exact WX.loop_next (j + 1, (al, cl), gs) ⟨rfl, rfl, rfl, rfl, rfl, rfl, trivial⟩ ⟨by show j + 1 ≤ _; omega, hG.skip hbg2, hgv, hV, hA, hB, hb_1, hR, hjk, hw⟩ (by show AL.length - (j + 1) < AL.length - j; omega))
      ·
        refine WL.nil (WX.then_normal (WC.cond_false rfl (WC.exit (WX.then_exit (WX.then_exit (WX.block_here (WX.then_normal (?_))))))))
        refine WC.seq (WC.seq (WC.region (WL.move rfl rfl (WL.len Try.underlying33 rfl rfl (WL.move rfl rfl (WL.len Try.underlying22 rfl rfl (?_)))))))
        have hjL : j = AL.length := by omega
        subst hjL
        refine WL.eqlF rfl rfl rfl (by rw [li_len]; omega) ?_
        refine WL.nil (WX.then_normal (WC.cond_false rfl (WC.skip (WX.then_normal (WC.seq (WC.region (WL.move rfl rfl (?_))))))))
        refine WL.move rfl rfl (?_)
        obtain ⟨bad, hbad⟩ : ∃ bad, bad = li (bdL bs AL.length) := ⟨_, rfl⟩
        have hbad3 : bad.length ≤ 3 := by rw [hbad, li_len]; omega
        have hkeep : ∀ j, j < ra.length + 3 → (j : Int) ∉ bad → (xss gs)[j]? = (xss AL)[j]? := fun j h1 h2 => by
          rw [xss, List.getElem?_map, hG.keep (by omega) (fun h => h2 (by rw [hbad]; exact bdL_int.2 h)), xss, List.getElem?_map]
        have hGS : RS (fun _ => True) _ (some ⟨gv, 0, none⟩) cv gs := ⟨hV.rsl.mono (fun _ _ => trivial), fun r hr => by
          rcases hG.mem hr with h1 | h1
          ·
            exact (hR.inner r h1).mono (fun _ _ => trivial)
          ·
            rw [h1]; exact hjk.mono (fun _ _ => trivial)⟩
        obtain ⟨j0, hj0, hjb⟩ := good_one AL.length bs (by omega)
        have hev : EvenB (xss gs) bad m0 := even_whole (A := xss AL) (N := ra.length + 3) (by omega) (by rw [xss_len]; omega) ⟨hn1, hn2⟩ hax hkeep (j := j0) (by omega) (fun h => by rw [hbad] at h; rw [(bdL_int.1 h).2] at hjb; cases hjb)
        have herr : errB (xss gs) bad = 0 := by
          rw [errB_ok (by rw [xss_len]; omega) (by rw [xss_len, hG.len, hbad]; exact bdL_ok bs _) (by rw [lenB_of hev]; omega), if_pos hbad3]
        have hAb := hA.rsl
        rw [← hbad] at hAb ⊢
        have hg := rebuild_good hGS hAb (k := ra.length) (by omega) ⟨hpos, h13⟩ herr hbad3 (lenB_of hev) hev
        rw [show gs.length = AL.length from hG.len] at hg
        refine WL.call eg_19 rfl rfl (hg) ?_
        rintro v w12 ⟨⟨go, N, p2, rfl, hO, hgo, hRB⟩, k12⟩
        have hRB2 : RB (xss gs) bad ra.length m0 (xss AL) := rb_whole (by omega) hax (fun q hq => by rw [hxa, ← hxl]; exact three_whole hq) hkeep
        have hx2 : xss p2 = xss AL := RB.uniq h13 hbad3 hRB hRB2
        have hl2 : p2.length = AL.length := by rw [← xss_len, hx2, xss_len]
        have hp2 := (hO.toRS (S := fun _ => True) (fun _ _ _ => trivial)).old
        rw [show Value.slice (some ⟨go, 0, none⟩) (ra.length + 3) (ra.length + 3) = Value.slice (some ⟨go, 0, none⟩) p2.length p2.length from by rw [hl2, hLn]]
        have zs_k12 := k12.size
        replace hB := hB.pure k12
        replace hb_1 := hb_1.pure k12
        replace hR := hR.pure k12
        replace hjk := hjk.pure k12
        replace hw := hw.pure k12
        refine WL.move rfl rfl (WL.extract rfl rfl rfl (WL.extract rfl rfl rfl (WL.assign rfl rfl (WL.assign rfl rfl (WL.nil (WX.then_normal (WC.seq (?_))))))))
        refine WC.seq (WC.region (WL.move rfl rfl (?_)))
        refine WL.neqF rfl rfl rfl (by first | rfl | omega | decide) ?_
        refine WL.move rfl rfl (WL.want rfl rfl rfl (WL.move rfl rfl (WL.want rfl rfl rfl (WL.move rfl rfl (WL.want rfl rfl rfl (?_))))))
        refine WL.call eg_20 rfl rfl (same_calls hp2 hR (by omega)) ?_
        rintro v w13 ⟨rfl, k13⟩
        rw [hx2, show decide (xss AL = xss AL) = true from decide_eq_true rfl]
        have zs_k13 := k13.size
        replace hB := hB.pure k13
        replace hb_1 := hb_1.pure k13
        replace hR := hR.pure k13
        replace hjk := hjk.pure k13
        replace hw := hw.pure k13
        replace hp2 := hp2.pure k13
        refine WL.want rfl rfl rfl (WL.not rfl rfl (WL.pickF rfl rfl rfl (WL.nil (WX.then_normal (WC.cond_false rfl (WC.skip (WX.then_normal (?_))))))))
        refine WC.seq (WC.seq (WC.region (WL.move rfl rfl (WL.len Try.underlying22 rfl rfl (?_)))))
        refine WL.lss? rfl rfl rfl (fun h128 => ?_) (fun h128 => ?_)
        ·
          refine WL.nil (WX.then_normal (WC.cond_true rfl (WC.seq (WC.region (WL.assign rfl rfl (WL.nil (WX.then_normal (?_))))))))
          refine WC.ret (WX.then_ret (?_))
          refine WX.ret1 (.inl rfl) Try.results9 rfl ?_
          exact ⟨_, rfl, rfl, hw⟩
        ·
          refine WL.nil (WX.then_normal (WC.cond_false rfl (WC.skip (WX.then_normal (WC.seq (WC.region (WL.move rfl rfl (?_))))))))
          refine WL.build (e := ei) [0, 1, 2, 3] Try.underlying33 Try.sizeOf3 Try.zeroValue3 rfl rfl rfl (by first | (simp [Value.cells]; done) | (simp [Value.cells] <;> rfl) | (simp [Value.cells, eb, ei, es, ebool, e32, e64]; done)) (by decide) rfl ?_
          intro a_b131 w_b131 b131 l_b131 z_b131 k_b131
          have zs_k_b131 := k_b131.size
          replace hB := hB.pure k_b131
          replace hb_1 := hb_1.pure k_b131
          replace hR := hR.pure k_b131
          replace hjk := hjk.pure k_b131
          replace hw := hw.pure k_b131
          replace hp2 := hp2.pure k_b131
          have hb56 := rebuild_bad hR b131.rsl (by omega) (by show 4 ≤ _; decide) (by rw [err_four (by omega) hax ⟨hn1, hn2⟩]; split <;> decide)
          rw [err_four (by omega) hax ⟨hn1, hn2⟩, if_neg (by omega)] at hb56
          refine WL.call eg_19 rfl rfl (hb56) ?_
          rintro v w8 ⟨rfl, k8⟩
          have zs_k8 := k8.size
          replace hB := hB.pure k8
          replace hb_1 := hb_1.pure k8
          replace hR := hR.pure k8
          replace hjk := hjk.pure k8
          replace hw := hw.pure k8
          replace hp2 := hp2.pure k8
          refine WL.move rfl rfl (WL.extract rfl rfl rfl (WL.extract rfl rfl rfl (WL.assign rfl rfl (WL.assign rfl rfl (WL.nil (WX.then_normal (WC.seq (?_))))))))
          refine WC.region (WL.move rfl rfl (WL.eql rfl rfl rfl (WL.assign rfl rfl (WL.nil (WX.then_normal (WC.ret (?_)))))))
          refine WX.ret1 (.inl rfl) Try.results9 rfl ?_
          exact ⟨_, rfl, rfl, hw⟩
theorem parityHeals_calls {w : World} {aa ab aj : Option Addr} {ca cb cj : Nat} {ra : List Rw} {bx : List Int} {jk : List UInt8} (ha : RS (· < w.heap.size) w aa ca ra) (hbx : RSl (· < w.heap.size) w ei ab cb bx) (hjk : RSl (· < w.heap.size) w eb aj cj jk) (la : bounded ra) :
    Calls Try.prog 9 [.agg #[.slice aa ra.length ca, .slice ab bx.length cb, .slice aj jk.length cj]].toArray w (Ret fun v w' => v = .bool true ∧ Chg Nob w w') := by
  by_cases h : okM ra
  · obtain ⟨n, hn, _⟩ := lenC_some h.2
    exact parityHeals_good ha hbx hjk la n h.1 hn
  · exact parityHeals_bad ha la h
end Go.Proofs.Ytjdbjdgobhjbkaa
