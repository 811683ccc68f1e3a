import Derived.Test.YtjdbjdgobhjbkaaQParityBounds9
namespace Go.Proofs.Ytjdbjdgobhjbkaa
open Go.RowKit Go.HL
/-- what Rebuild has at its end is what it must answer -/
theorem rb_fin {cols : List (List UInt8)} {bad : List Int} {k n : Nat} {rs1 rs3 rs4 : List Rw} (hI : RI cols bad k n (k + 3) rs1) (hH : HealI rs1 rs3 k (lostL k bad) (fromL k bad) n) (hlen : rs4.length = k + 3) (hlow : ∀ j, j < k → rs4[j]? = rs3[j]?) (hpar : ∀ q, q < 3 → ((k + q : Nat) : Int) ∉ bad → rs4[k + q]? = rs3[k + q]?)
    (hbad : ∀ q, q < 3 → ((k + q : Nat) : Int) ∈ bad → ∃ r, rs4[k + q]? = some r ∧ r.xs = prow (wtq q) ((xss rs4).take k) n k) : RB cols bad k n (xss rs4) := by
  have hlow2 : ∀ (j : Nat) (r : Rw), j < k → rs4[j]? = some r → r.xs.length = n := fun j r hj hr => by
    rw [hlow j hj] at hr
    obtain ⟨r1, hr1, _, _, h5, _⟩ := hH.back hr
    obtain ⟨_, _, h6⟩ := hI.real j r1 hr1 (by omega) (fun h => by omega)
    rw [h5, h6]
  have htl : ((xss rs4).take k).length = k := by rw [List.length_take, xss_len]; omega
  have hta : ∀ d ∈ (xss rs4).take k, d.length = n := fun d hd => by
    obtain ⟨j, hj⟩ := List.getElem?_of_mem hd
    have hjk : j < k := by have := (List.getElem?_eq_some_iff.1 hj).1; omega
    rw [List.getElem?_take_of_lt hjk] at hj
    obtain ⟨r, hr⟩ : ∃ r, rs4[j]? = some r := ⟨_, List.getElem?_eq_getElem (by omega)⟩
    rw [xss_at hr] at hj
    injection hj with hj
    rw [← hj]
    exact hlow2 j r hjk hr
  have hgood : ∀ (q : Nat) (r : Rw), q < 3 → ((k + q : Nat) : Int) ∉ bad → rs4[k + q]? = some r → r.xs.length = n := fun q r hq hb hr => by
    rw [hpar q hq hb] at hr
    obtain ⟨r1, hr1, _, _, h5, _⟩ := hH.back hr
    obtain ⟨_, _, h6⟩ := hI.real (k + q) r1 hr1 (by omega) (fun h => hb h.2)
    rw [h5, h6]
  refine ⟨by rw [xss_len]; exact hlen, fun x hx => ?_, fun j hj hb => ?_, fun q hq hc => ?_⟩
  · obtain ⟨j, hj⟩ := List.getElem?_of_mem hx
    have hjl : j < k + 3 := by have := (List.getElem?_eq_some_iff.1 hj).1; rw [xss_len] at this; omega
    obtain ⟨r, hr⟩ : ∃ r, rs4[j]? = some r := ⟨_, List.getElem?_eq_getElem (by omega)⟩
    rw [xss_at hr] at hj
    injection hj with hj
    rw [← hj]
    rcases Nat.lt_or_ge j k with h1 | h1
    · exact hlow2 j r h1 hr
    · have e : j = k + (j - k) := by omega
      by_cases hb : (j : Int) ∈ bad
      · obtain ⟨r', h2, h3⟩ := hbad (j - k) (by omega) (by rw [← e]; exact hb)
        rw [← e, hr] at h2
        injection h2 with h2
        rw [h2, h3]
        exact prow_len hta (by omega)
      · exact hgood (j - k) r (by omega) (by rw [← e]; exact hb) (by rw [← e]; exact hr)
  · obtain ⟨r, hr⟩ : ∃ r, rs4[j]? = some r := ⟨_, List.getElem?_eq_getElem (by omega)⟩
    have h3 : rs3[j]? = some r := by
      rcases Nat.lt_or_ge j k with h1 | h1
      · rw [← hlow j h1]; exact hr
      · have e : j = k + (j - k) := by omega
        have h2 := hpar (j - k) (by omega) (by rw [← e]; exact hb)
        rw [← e] at h2
        rw [← h2]; exact hr
    obtain ⟨r1, hr1, _, _, _, h5⟩ := hH.back h3
    rw [xss_at hr, h5 (fun h => hb (lost_mem.1 h).2), hI.keep j r1 hr1 hj hb]
  · by_cases hb : ((k + q : Nat) : Int) ∈ bad
    · obtain ⟨r, h2, h3⟩ := hbad q hq hb
      rw [xss_at h2, h3]
    · have hf : q ∈ fromL k bad := hc.resolve_left hb
      obtain ⟨r, hr⟩ : ∃ r, rs4[k + q]? = some r := ⟨_, List.getElem?_eq_getElem (by omega)⟩
      rw [xss_at hr]
      congr 1
      have hrl := hgood q r hq hb hr
      have hr3 : rs3[k + q]? = some r := by rw [← hpar q hq hb]; exact hr
      refine getD_ext (by rw [hrl, prow_len hta (by omega)]) (fun t ht => ?_)
      have h1 := hH.eqs t (by omega) q hf
      rw [fn_at1 (mx_at hr3)] at h1
      rw [← h1, List.getD_eq_getElem?_getD, prow_at hta (by omega) (by omega), px_sumF]
      refine sumF_cong (fun j hj => ?_)
      congr 1
      exact fn_opt (by rw [List.getElem?_take_of_lt hj, mx, List.getElem?_map, xss, List.getElem?_map, hlow j hj]) t
/-- the parities that are put in their places -/
structure FI (rs3 pw : List Rw) (bad : List Int) (k q : Nat) (rs4 : List Rw) : Prop where
  len : rs4.length = k + 3
  low : ∀ j, j < k → rs4[j]? = rs3[j]?
  par : ∀ q', q' < 3 → rs4[k + q']? = if q' < q ∧ ((k + q' : Nat) : Int) ∈ bad then pw[q']? else rs3[k + q']?
theorem FI.start {rs3 : List Rw} (pw : List Rw) (bad : List Int) {k : Nat} (h : rs3.length = k + 3) : FI rs3 pw bad k 0 rs3 := ⟨h, fun _ _ => rfl, fun q' _ => by rw [if_neg (by omega)]⟩
theorem FI.skip {rs3 pw rs4 : List Rw} {bad : List Int} {k q : Nat} (h : FI rs3 pw bad k q rs4) (hb : ((k + q : Nat) : Int) ∉ bad) : FI rs3 pw bad k (q + 1) rs4 := ⟨h.len, h.low, fun q' hq => by
  rw [h.par q' hq]
  by_cases e : q' = q
  · subst e
    rw [if_neg (fun h => hb h.2), if_neg (fun h => hb h.2)]
  · by_cases e2 : q' < q ∧ ((k + q' : Nat) : Int) ∈ bad
    · rw [if_pos e2, if_pos ⟨by omega, e2.2⟩]
    · rw [if_neg e2, if_neg (fun h => e2 ⟨by omega, h.2⟩)]⟩
theorem FI.put {rs3 pw rs4 : List Rw} {bad : List Int} {k q : Nat} {z : Rw} (h : FI rs3 pw bad k q rs4) (hb : ((k + q : Nat) : Int) ∈ bad) (hq : q < 3) (hz : pw[q]? = some z) : FI rs3 pw bad k (q + 1) (rs4.set (k + q) z) := ⟨by rw [List.length_set]; exact h.len, fun j hj => by rw [List.getElem?_set_ne (by omega)]; exact h.low j hj, fun q' hq' => by
  by_cases e : q' = q
  · subst e
    rw [List.getElem?_set_self (by rw [h.len]; omega), if_pos ⟨by omega, hb⟩, hz]
  · rw [List.getElem?_set_ne (by omega), h.par q' hq']
    by_cases e2 : q' < q ∧ ((k + q' : Nat) : Int) ∈ bad
    · rw [if_pos e2, if_pos ⟨by omega, e2.2⟩]
    · rw [if_neg e2, if_neg (fun h => e2 ⟨by omega, h.2⟩)]⟩
end Go.Proofs.Ytjdbjdgobhjbkaa
namespace Go.Proofs.Ytjdbjdgobhjbkaa
open Go.RowKit Go.HL

theorem rebuild_bad {S S2 : Nat → Prop} {w : World} {ao ab : Option Addr} {c cb : Nat} {rs : List Rw} {bad : List Int} (hc : RS S w ao c rs) (hb : RSl S2 w ei ab cb bad) (hl : rs.length * 24 ≤ 140737488351232) (hbl : bad.length ≤ 140737488351232) (he : errB (xss rs) bad ≠ 0) :
    Calls Try.prog 19 [.slice ao rs.length c, .slice ab bad.length cb].toArray w (Ret fun v w' => v = .tuple #[.slice none 0 0, vi (errB (xss rs) bad)] ∧ Chg Nob w w') := by
  replace hc := hc.old
  replace hb := hb.old
  have hw := Chg.refl Nob w
  refine Calls.of_WC Try.func19 rfl Try.ntmps19 (by simp) ?_
  refine WC.seq (WC.region (WL.assign rfl rfl (WL.assign rfl rfl (WL.nil (WX.then_normal (WC.seq (WC.region (?_))))))))
  refine WL.move rfl rfl (WL.move rfl rfl (?_))
  refine WL.call eg_38 rfl rfl (right_calls hc hb hl hbl) ?_
  rintro v w1 ⟨rfl, k1⟩
  have zs_k1 := k1.size
  replace hc := hc.pure k1
  replace hb := hb.pure k1
  replace hw := hw.pure k1
  refine WL.move rfl rfl (WL.extract rfl rfl rfl (WL.extract rfl rfl rfl (WL.assign rfl rfl (WL.assign rfl rfl (WL.nil (WX.then_normal (WC.seq (?_))))))))
  refine WC.seq (WC.region (WL.move rfl rfl (?_)))
  refine WL.neqT rfl rfl rfl (by first | rfl | omega | decide) ?_
  refine WL.nil (WX.then_normal (WC.cond_true rfl (WC.seq (WC.region (WL.move rfl rfl (WL.assign rfl rfl (WL.assign rfl rfl (?_))))))))
  refine WL.nil (WX.then_normal (WC.ret (WX.then_ret (?_))))
  refine WX.ret2 (.inl rfl) Try.results19 rfl rfl ?_
  exact ⟨_, rfl, rfl, hw⟩
set_option maxHeartbeats 8000000 in
theorem rebuild_good {S S2 : Nat → Prop} {w : World} {ao ab : Option Addr} {c cb k n : Nat} {rs : List Rw} {bad : List Int} (hc : RS S w ao c rs) (hb : RSl S2 w ei ab cb bad) (hk : rs.length = k + 3) (hk1 : 1 ≤ k ∧ k ≤ 13) (he : errB (xss rs) bad = 0) (hb3 : bad.length ≤ 3) (hn : lenB (xss rs) bad = (n : Int)) (hev : EvenB (xss rs) bad n) :
    Calls Try.prog 19 [.slice ao rs.length c, .slice ab bad.length cb].toArray w (Ret fun v w' => (∃ go N ps, v = .tuple #[.slice (some ⟨go, 0, none⟩) (k + 3) (k + 3), vi 0] ∧ OB w' 23 5 go N ps ∧ w.heap.size ≤ go ∧ RB (xss rs) bad k n (xss ps)) ∧ Chg Nob w w') := by
  replace hc := hc.old
  replace hb := hb.old
  have hw := Chg.refl Nob w
  have hn1 := hev.1
  refine Calls.of_WC Try.func19 rfl Try.ntmps19 (by simp) ?_
  refine WC.seq (WC.region (WL.assign rfl rfl (WL.assign rfl rfl (WL.nil (WX.then_normal (WC.seq (WC.region (?_))))))))
  refine WL.move rfl rfl (WL.move rfl rfl (?_))
  refine WL.call eg_38 rfl rfl (right_calls hc hb (by omega) (by omega)) ?_
  rintro v w1 ⟨rfl, k1⟩
  rw [he, if_pos rfl, hn]
  have zs_k1 := k1.size
  replace hc := hc.pure k1
  replace hb := hb.pure k1
  replace hw := hw.pure k1
  refine WL.move rfl rfl (WL.extract rfl rfl rfl (WL.extract rfl rfl rfl (WL.assign rfl rfl (WL.assign rfl rfl (WL.nil (WX.then_normal (WC.seq (?_))))))))
  refine WC.seq (WC.region (WL.move rfl rfl (?_)))
  refine WL.neqF rfl rfl rfl (by first | rfl | omega | decide) ?_
  refine WL.nil (WX.then_normal (WC.cond_false rfl (WC.skip (WX.then_normal (WC.seq (WC.region (WL.move rfl rfl (?_))))))))
  refine WL.len Try.underlying22 rfl rfl (?_)
  refine WL.sub64 rfl rfl (by constructor <;> omega) rfl ?_
  rw [show ((rs.length : Int) - 3) = (k : Int) from by omega]
  refine WL.assign rfl rfl (WL.nil (WX.then_normal (WC.seq (WC.region (WL.move rfl rfl (WL.len Try.underlying22 rfl rfl (?_)))))))
  refine WL.make (e := erow) ⟨none, 0, []⟩ (k + 3) (k + 3) Try.underlying22 info_23 rfl rfl rfl ⟨by show (rs.length : Int) = _; omega, by show (rs.length : Int) = _; omega, Nat.le_refl _⟩ (by constructor <;> omega) rfl ?_
  intro go wq hq kq zq ego
  rw [List.length_replicate]
  have zs_kq := kq.size
  replace hc := hc.pure kq
  replace hb := hb.pure kq
  replace hw := hw.pure kq
  refine WL.assign rfl rfl (WL.nil (WX.then_normal (WC.seq (WC.region (WL.assign rfl rfl (WL.nil (WX.then_normal (?_))))))))
  refine WC.seq (WC.seq (WC.region (WL.move rfl rfl (WL.len Try.underlying22 rfl rfl (WL.move rfl rfl (WL.nil (WX.then_normal (?_))))))))
  refine WC.block (?_)
  have zw0 := hw.size
  have hgo : w.heap.size ≤ go := by omega
  have hO : OB wq 23 5 go wq.heap.size (List.replicate (k + 3) ⟨none, 0, []⟩) := ⟨⟨(fun a ea => by injection ea with ea; subst ea; rfl), (by have h9 := hq.own; rw [List.length_replicate] at h9 ⊢; exact h9)⟩, (fun i r hr => .inl ((RI.start (xss rs) bad k n).nil i r hr (.inl (Nat.zero_le _)))), (fun i j r s g hr _ hg _ => by rw [(RI.start (xss rs) bad k n).nil i r hr (.inl (Nat.zero_le _))] at hg; cases hg), (by omega)⟩
  have hA : Row (fun b => w.heap.size ≤ b ∧ b ≠ go ∧ ∀ r ∈ (List.replicate (k + 3) (⟨none, 0, []⟩ : Rw)), r.ao ≠ some ⟨b, 0, none⟩) wq 3 ei none 0 (li (lostL (min 0 k) bad)) := by rw [Nat.zero_min]; exact Row.nil _ _ _ _
  refine WC.loop (σ := Nat × (Option Addr × Nat) × List Rw) (fun s => [(0, .slice ao rs.length c), (1, .slice ab bad.length cb), (6, vi n), (8, vi k), (9, .slice (some ⟨go, 0, none⟩) (k + 3) (k + 3)), (10, .slice s.2.1.1 (li (lostL (min s.1 k) bad)).length s.2.1.2), (32, .slice ao rs.length c), (33, vi rs.length), (34, vi s.1)])
    (fun s w' => s.1 ≤ rs.length ∧ RI (xss rs) bad k n s.1 s.2.2 ∧ OB w' 23 5 go w'.heap.size s.2.2 ∧ Row (fun b => w.heap.size ≤ b ∧ b ≠ go ∧ ∀ r ∈ s.2.2, r.ao ≠ some ⟨b, 0, none⟩) w' 3 ei s.2.1.1 s.2.1.2 (li (lostL (min s.1 k) bad)) ∧ RS (· < w.heap.size) w' ao c rs ∧ RSl (· < w.heap.size) w' ei ab cb bad ∧ Chg Nob w w') (fun s => rs.length - s.1) (0, (none, 0), List.replicate (k + 3) ⟨none, 0, []⟩) ⟨rfl, rfl, rfl, rfl, rfl, by show some (Value.slice none 0 0) = some (Value.slice none (li (lostL (min 0 k) bad)).length 0); rw [Nat.zero_min]; rfl, rfl, rfl, rfl, trivial⟩ ⟨Nat.zero_le _, RI.start _ _ _ _, hO, hA, hc, hb, hw⟩ ?_
  clear hO hA hq hc hb hw
  rintro ⟨i, ⟨al, cl⟩, rs1⟩ w2 ⟨hi, hI, hO, hA, hc, hb, hw⟩
  simp only at hi hI hO hA
  dsimp only
  replace hA := hA.lt
  have zw2 := hw.size
  obtain ⟨N2, hN2⟩ : ∃ N2, N2 = w2.heap.size := ⟨_, rfl⟩
  rw [← hN2] at hO hA
  have hNw : N2 ≤ w2.heap.size := by omega
  have hil := hI.len
  refine WC.seq (WC.region (?_))
  refine WL.lss? rfl rfl rfl (fun h35 => ?_) (fun h35 => ?_)
  ·
    refine WL.nil (WX.then_normal (WC.seq (WC.cond_true rfl (WC.skip (WX.then_normal (WC.seq (WC.block (?_))))))))
    refine WC.seq (WC.region (WL.move rfl rfl (?_)))
    obtain ⟨r, hr⟩ : ∃ r, rs[i]? = some r := ⟨_, List.getElem?_eq_getElem (by omega)⟩
    have hrx := xss_at hr
    refine WL.indexT Try.underlying22 Try.sizeOf23 hc.outer rfl rfl ⟨hr, rfl⟩ rfl ?_
    intro b_1 o_1 hc_1
    refine WL.load Try.isAgg23 rfl (hc_1 0 _ rfl) rfl (WL.assign rfl rfl (WL.assign rfl rfl (WL.nil (WX.then_normal (WC.block (WC.seq (WC.region (?_))))))))
    refine WL.move rfl rfl (WL.move rfl rfl (?_))
    refine WL.call eg_39 rfl rfl (contains_calls hb (by omega) _) ?_
    rintro v w3 ⟨rfl, k3⟩
    have zs_k3 := k3.size
    replace hO := hO.pure k3
    replace hA := hA.pure k3
    replace hc := hc.pure k3
    replace hb := hb.pure k3
    replace hw := hw.pure k3
    by_cases hbi : (i : Int) ∈ bad
    ·
      rw [decide_eq_true hbi]
      refine WL.not rfl rfl (WL.assign rfl rfl (WL.nil (WX.then_normal (WC.cond_false rfl (WC.seq (WC.region (WL.move rfl rfl (?_))))))))
      refine WL.move rfl rfl (?_)
      refine WL.lss? rfl rfl rfl (fun h52 => ?_) (fun h52 => ?_)
      ·
        refine WL.assign rfl rfl (WL.nil (WX.then_normal (WC.cond_true rfl (WC.seq (WC.region (WL.move rfl rfl (WL.move rfl rfl (?_))))))))
        refine WL.move rfl rfl (?_)
        refine WL.make (e := eb) (0 : UInt8) n n Try.underlying23 info_5 rfl rfl rfl ⟨rfl, rfl, Nat.le_refl _⟩ (by constructor <;> omega) rfl ?_
        intro g wg hg9 kg zg eg
        rw [List.length_replicate]
        have hg : Row (fun b => b = g) wg 5 eb (some ⟨g, 0, none⟩) n (List.replicate n 0) := ⟨(fun a ea => by injection ea with ea; subst ea; rfl), hg9.own⟩
        clear hg9
        have zs_kg := kg.size
        replace hO := hO.pure kg
        replace hA := hA.pure kg
        replace hc := hc.pure kg
        replace hb := hb.pure kg
        replace hw := hw.pure kg
        refine WL.index (sz := 1) (j := i) Try.underlying22 Try.sizeOf23 rfl rfl rfl (by omega) rfl ?_
        refine WL.storeRow (z := ⟨some ⟨g, 0, none⟩, n, List.replicate n 0⟩) i Try.sizeOf23 hO.outer rfl (by show [Value.slice (some ⟨g, 0, none⟩) (List.replicate n 0).length n] = _; rw [List.length_replicate]) rfl (by show 0 + i * 1 = i; omega) (by omega) rfl ?_
        intro w5 z5 ho5 k5
        have zk5 := k5.size
        have hgl : g < _ := hg.own.lt _ rfl
        have hO5 := (hO.put (by omega) (by omega) hg k5 ho5).up (N' := w5.heap.size) (by omega)
        have hI5 := hI.put (g := g) (cr := n) (xs := List.replicate n 0) (fun h => by omega) (by omega) (by rw [List.length_replicate]) (fun h => absurd hbi h) (fun _ => rfl)
        have hA5 := (hA.chg k5 (fun b _ h1 h2 => h1.1.2.1 h2)).mono (S' := fun b => w.heap.size ≤ b ∧ b ≠ go ∧ ∀ s ∈ rs1.set i ⟨some ⟨g, 0, none⟩, n, List.replicate n 0⟩, s.ao ≠ some ⟨b, 0, none⟩) (fun b h => ⟨h.1.1, h.1.2.1, fun s hs e => by
          rcases List.mem_or_eq_of_mem_set hs with h1 | h1
          ·
            exact h.1.2.2 s h1 e
          ·
            rw [h1] at e
            injection e with e
            injection e with e
            have := h.2
            omega⟩)
        replace hc := hc.chg k5 (fun b _ h1 h2 => by have h3 : b = go := h2; omega)
        replace hb := hb.chg k5 (fun b _ h1 h2 => by have h3 : b = go := h2; omega)
        replace hw := hw.chg k5 (fun x h0 h2 => by have h3 : x = go := h2; omega)
        refine WL.nil (WX.then_normal (WC.region (WL.move rfl rfl (WL.move rfl rfl (?_)))))
        refine WL.build (e := ei) [(i : Int)] Try.underlying33 Try.sizeOf3 Try.zeroValue3 rfl rfl rfl (by first | (simp [Value.cells]; done) | (simp [Value.cells] <;> rfl) | (simp [Value.cells, eb, ei, es, ebool, e32, e64]; done)) (by decide) rfl ?_
        intro a_qn w_qn qn l_qn z_qn k_qn
        have zs_k_qn := k_qn.size
        replace hc := hc.pure k_qn
        replace hb := hb.pure k_qn
        replace hw := hw.pure k_qn
        replace hO5 := hO5.pure k_qn
        replace hA5 := hA5.pure k_qn
        have hlo5 := hO5.lo
        have hll : (li (lostL (min i k) bad)).length ≤ 16 := by
          rw [li_len, lostL]
          exact Nat.le_trans (List.length_filter_le _ _) (by rw [List.length_range]; omega)
        refine WL.append (e := ei) (xs := li (lostL (min i k) bad)) (S := fun b => w.heap.size ≤ b ∧ b ≠ go ∧ ∀ s ∈ rs1.set i ⟨some ⟨g, 0, none⟩, n, List.replicate n 0⟩, s.ao ≠ some ⟨b, 0, none⟩) info_3 rfl Try.underlying33 rfl rfl hA5 (qn.rsl.src Try.underlying33) (by constructor <;> (simp only [List.length_cons, List.length_nil]; omega)) (fun b hb => ⟨by omega, by omega, fun s hs e => by obtain ⟨j, hj⟩ := List.getElem?_of_mem hs; have := (hO5.at hj e).1; omega⟩) rfl ?_
        intro a9 c9 w9 hA9 g9 n9
        have k9 := g9.chg
        have zk9 := k9.size
        have hO9 := (hO5.chg2 k9 (fun h => h.2.2.1 rfl) (fun s hs gg e h => h.2.2.2 s hs e)).up (N' := w9.heap.size) (by omega)
        replace hc := hc.chg k9 (fun b _ h1 h2 => by have := h2.2.1; omega)
        replace hb := hb.chg k9 (fun b _ h1 h2 => by have := h2.2.1; omega)
        replace hw := hw.chg k9 (fun x h0 h2 => by have := h2.2.1; omega)
        have e9 : li (lostL (min i k) bad) ++ [(i : Int)] = li (lostL (min (i + 1) k) bad) := by
          rw [Nat.min_eq_left (by omega), Nat.min_eq_left (by omega), lost_next, if_pos hbi, li_app]
          rfl
        rw [e9] at hA9 ⊢
        refine WL.assign rfl rfl (WL.nil (WX.block_normal (WX.block_normal (WX.then_normal (WC.region (WL.add64 rfl rfl (by first | omega | (constructor <;> omega)) rfl (WL.move rfl rfl (?_))))))))
        refine WL.nil (?_)
        first
          | (have hle : lostL (min (i + 1) k) bad = lostL (min i k) bad := by
               rcases Nat.lt_or_ge i k with h | h
               ·
                 rw [Nat.min_eq_left (by omega), Nat.min_eq_left (by omega), lost_next, if_neg hbi, List.append_nil]
               ·
                 rw [Nat.min_eq_right (by omega), Nat.min_eq_right (by omega)]
             rw [← hle] at hA5 ⊢
             exact WX.loop_next (i + 1, (al, cl), rs1.set i ⟨some ⟨g, 0, none⟩, cg, r.xs⟩) ⟨rfl, rfl, rfl, rfl, rfl, rfl, rfl, rfl, rfl, trivial⟩ ⟨by show i + 1 ≤ _; omega, hI5, hO5, hA5, hc, hb, hw⟩ (by show rs.length - (i + 1) < rs.length - i; omega))
          | exact WX.loop_next (q + 1, rs4.set (k + q) ⟨some ⟨g, 0, none⟩, n, x⟩) ⟨rfl, rfl, rfl, rfl, rfl, trivial⟩ ⟨by show q + 1 ≤ 3; omega, hFI5, hO5, hP5, hw⟩ (by show 3 - (q + 1) < 3 - q; omega)
          | exact WX.loop_next (q + 1, rs4) ⟨rfl, rfl, rfl, rfl, rfl, trivial⟩ ⟨by show q + 1 ≤ 3; omega, hFI.skip hbq, hO4, hP, hw⟩ (by show 3 - (q + 1) < 3 - q; omega)
          | exact WX.loop_next (i + 1, (a9, c9), rs1.set i ⟨some ⟨g, 0, none⟩, n, List.replicate n 0⟩) ⟨rfl, rfl, rfl, rfl, rfl, rfl, rfl, rfl, rfl, trivial⟩ ⟨by show i + 1 ≤ _; omega, hI5, hO9, hA9, hc, hb, hw⟩ (by show rs.length - (i + 1) < rs.length - i; omega)
          | (have hle : lostL (min (i + 1) k) bad = lostL (min i k) bad := by
               rw [Nat.min_eq_right (by omega), Nat.min_eq_right (by omega)]
             have hA5 := hA.mono (S' := fun b => w.heap.size ≤ b ∧ b ≠ go ∧ ∀ s ∈ rs1, s.ao ≠ some ⟨b, 0, none⟩) (fun b h => h.1)
             rw [← hle] at hA5 ⊢
             exact WX.loop_next (i + 1, (al, cl), rs1) ⟨rfl, rfl, rfl, rfl, rfl, rfl, rfl, rfl, rfl, trivial⟩ ⟨by show i + 1 ≤ _; omega, hI.skip ⟨by omega, hbi⟩, hO.up (by omega), hA5, hc, hb, hw⟩ (by show rs.length - (i + 1) < rs.length - i; omega))
      ·
        refine WL.assign rfl rfl (WL.nil (WX.then_normal (WC.cond_false rfl (WC.skip (WX.block_normal (WX.block_normal (WX.then_normal (?_))))))))
        refine WC.region (WL.add64 rfl rfl (by first | omega | (constructor <;> omega)) rfl (WL.move rfl rfl (WL.nil (?_))))
        first
          | (have hle : lostL (min (i + 1) k) bad = lostL (min i k) bad := by
               rcases Nat.lt_or_ge i k with h | h
               ·
                 rw [Nat.min_eq_left (by omega), Nat.min_eq_left (by omega), lost_next, if_neg hbi, List.append_nil]
               ·
                 rw [Nat.min_eq_right (by omega), Nat.min_eq_right (by omega)]
             rw [← hle] at hA5 ⊢
             exact WX.loop_next (i + 1, (al, cl), rs1.set i ⟨some ⟨g, 0, none⟩, cg, r.xs⟩) ⟨rfl, rfl, rfl, rfl, rfl, rfl, rfl, rfl, rfl, trivial⟩ ⟨by show i + 1 ≤ _; omega, hI5, hO5, hA5, hc, hb, hw⟩ (by show rs.length - (i + 1) < rs.length - i; omega))
          | exact WX.loop_next (q + 1, rs4.set (k + q) ⟨some ⟨g, 0, none⟩, n, x⟩) ⟨rfl, rfl, rfl, rfl, rfl, trivial⟩ ⟨by show q + 1 ≤ 3; omega, hFI5, hO5, hP5, hw⟩ (by show 3 - (q + 1) < 3 - q; omega)
          | exact WX.loop_next (q + 1, rs4) ⟨rfl, rfl, rfl, rfl, rfl, trivial⟩ ⟨by show q + 1 ≤ 3; omega, hFI.skip hbq, hO4, hP, hw⟩ (by show 3 - (q + 1) < 3 - q; omega)
          | exact WX.loop_next (i + 1, (a9, c9), rs1.set i ⟨some ⟨g, 0, none⟩, n, List.replicate n 0⟩) ⟨rfl, rfl, rfl, rfl, rfl, rfl, rfl, rfl, rfl, trivial⟩ ⟨by show i + 1 ≤ _; omega, hI5, hO9, hA9, hc, hb, hw⟩ (by show rs.length - (i + 1) < rs.length - i; omega)
          | (have hle : lostL (min (i + 1) k) bad = lostL (min i k) bad := by
               rw [Nat.min_eq_right (by omega), Nat.min_eq_right (by omega)]
             have hA5 := hA.mono (S' := fun b => w.heap.size ≤ b ∧ b ≠ go ∧ ∀ s ∈ rs1, s.ao ≠ some ⟨b, 0, none⟩) (fun b h => h.1)
             rw [← hle] at hA5 ⊢
             exact WX.loop_next (i + 1, (al, cl), rs1) ⟨rfl, rfl, rfl, rfl, rfl, rfl, rfl, rfl, rfl, trivial⟩ ⟨by show i + 1 ≤ _; omega, hI.skip ⟨by omega, hbi⟩, hO.up (by omega), hA5, hc, hb, hw⟩ (by show rs.length - (i + 1) < rs.length - i; omega))
    ·
      have hrl : r.xs.length = n := hev.2.2 i r.xs hrx hbi
      rw [decide_eq_false hbi]
      refine WL.not rfl rfl (WL.assign rfl rfl (WL.nil (WX.then_normal (WC.cond_true rfl (WC.region (WL.move rfl rfl (WL.move rfl rfl (?_))))))))
      refine WL.move rfl rfl (?_)
      refine WL.call eg_40 rfl rfl (bclone_calls (hc.at hr) (by omega) (by omega)) ?_
      rintro v w4 ⟨⟨g, cg, rfl, hg, hgN⟩, k4⟩
      have zs_k4 := k4.size
      replace hO := hO.pure k4
      replace hA := hA.pure k4
      replace hc := hc.pure k4
      replace hb := hb.pure k4
      replace hw := hw.pure k4
      refine WL.index (sz := 1) (j := i) Try.underlying22 Try.sizeOf23 rfl rfl rfl (by omega) rfl ?_
      refine WL.storeRow (z := ⟨some ⟨g, 0, none⟩, cg, r.xs⟩) i Try.sizeOf23 hO.outer rfl rfl rfl (by show 0 + i * 1 = i; omega) (by omega) rfl ?_
      intro w5 z5 ho5 k5
      have zk5 := k5.size
      have hgl : g < _ := hg.own.lt _ rfl
      have hO5 := (hO.put (by omega) (by omega) hg k5 ho5).up (N' := w5.heap.size) (by omega)
      have hI5 := hI.put (g := g) (cr := cg) (xs := r.xs) (fun h => hbi h.2) (by omega) hrl (fun _ => hrx) (fun h => absurd h hbi)
      have hA5 := (hA.chg k5 (fun b _ h1 h2 => h1.1.2.1 h2)).mono (S' := fun b => w.heap.size ≤ b ∧ b ≠ go ∧ ∀ s ∈ rs1.set i ⟨some ⟨g, 0, none⟩, cg, r.xs⟩, s.ao ≠ some ⟨b, 0, none⟩) (fun b h => ⟨h.1.1, h.1.2.1, fun s hs e => by
        rcases List.mem_or_eq_of_mem_set hs with h1 | h1
        ·
          exact h.1.2.2 s h1 e
        ·
          rw [h1] at e
          injection e with e
          injection e with e
          have := h.2
          omega⟩)
      replace hc := hc.chg k5 (fun b _ h1 h2 => by have h3 : b = go := h2; omega)
      replace hb := hb.chg k5 (fun b _ h1 h2 => by have h3 : b = go := h2; omega)
      replace hw := hw.chg k5 (fun x h0 h2 => by have h3 : x = go := h2; omega)
      refine WL.nil (WX.block_normal (WX.block_normal (WX.then_normal (WC.region (WL.add64 rfl rfl (by first | omega | (constructor <;> omega)) rfl (WL.move rfl rfl (WL.nil (?_))))))))
      first
        | (have hle : lostL (min (i + 1) k) bad = lostL (min i k) bad := by
             rcases Nat.lt_or_ge i k with h | h
             ·
               rw [Nat.min_eq_left (by omega), Nat.min_eq_left (by omega), lost_next, if_neg hbi, List.append_nil]
             ·
               rw [Nat.min_eq_right (by omega), Nat.min_eq_right (by omega)]
           rw [← hle] at hA5 ⊢
           exact WX.loop_next (i + 1, (al, cl), rs1.set i ⟨some ⟨g, 0, none⟩, cg, r.xs⟩) ⟨rfl, rfl, rfl, rfl, rfl, rfl, rfl, rfl, rfl, trivial⟩ ⟨by show i + 1 ≤ _; omega, hI5, hO5, hA5, hc, hb, hw⟩ (by show rs.length - (i + 1) < rs.length - i; omega))
        | exact WX.loop_next (q + 1, rs4.set (k + q) ⟨some ⟨g, 0, none⟩, n, x⟩) ⟨rfl, rfl, rfl, rfl, rfl, trivial⟩ ⟨by show q + 1 ≤ 3; omega, hFI5, hO5, hP5, hw⟩ (by show 3 - (q + 1) < 3 - q; omega)
        | exact WX.loop_next (q + 1, rs4) ⟨rfl, rfl, rfl, rfl, rfl, trivial⟩ ⟨by show q + 1 ≤ 3; omega, hFI.skip hbq, hO4, hP, hw⟩ (by show 3 - (q + 1) < 3 - q; omega)
        | exact WX.loop_next (i + 1, (a9, c9), rs1.set i ⟨some ⟨g, 0, none⟩, n, List.replicate n 0⟩) ⟨rfl, rfl, rfl, rfl, rfl, rfl, rfl, rfl, rfl, trivial⟩ ⟨by show i + 1 ≤ _; omega, hI5, hO9, hA9, hc, hb, hw⟩ (by show rs.length - (i + 1) < rs.length - i; omega)
        | (have hle : lostL (min (i + 1) k) bad = lostL (min i k) bad := by
             rw [Nat.min_eq_right (by omega), Nat.min_eq_right (by omega)]
           have hA5 := hA.mono (S' := fun b => w.heap.size ≤ b ∧ b ≠ go ∧ ∀ s ∈ rs1, s.ao ≠ some ⟨b, 0, none⟩) (fun b h => h.1)
           rw [← hle] at hA5 ⊢
           exact WX.loop_next (i + 1, (al, cl), rs1) ⟨rfl, rfl, rfl, rfl, rfl, rfl, rfl, rfl, rfl, trivial⟩ ⟨by show i + 1 ≤ _; omega, hI.skip ⟨by omega, hbi⟩, hO.up (by omega), hA5, hc, hb, hw⟩ (by show rs.length - (i + 1) < rs.length - i; omega))
  ·
    refine WL.nil (WX.then_normal (WC.seq (WC.cond_false rfl (WC.exit (WX.then_exit (WX.then_exit (WX.block_here (?_))))))))
    refine WX.then_normal (WC.seq (WC.region (?_)))
    refine WL.bld rfl bldF rfl ?_
    have him : i = rs.length := by omega
    refine WL.box rfl rfl ?_
    intro gx wx hgex hltx hbx kx
    have zs_kx := kx.size
    replace hO := hO.pure kx
    replace hA := hA.pure kx
    replace hc := hc.pure kx
    replace hb := hb.pure kx
    replace hw := hw.pure kx
    refine WL.assign rfl rfl (WL.nil (WX.then_normal (WC.seq (WC.seq (WC.region (WL.move rfl rfl (WL.move rfl rfl (?_))))))))
    refine WL.move rfl rfl (WL.move rfl rfl (WL.move rfl rfl (?_)))
    have emk : min i k = k := Nat.min_eq_right (by omega)
    rw [emk] at hA ⊢
    have hOx := hO.up (N' := gx) (by omega)
    have hLx : RSl (Off rs1 go gx) _ ei al cl (li (lostL k bad)) := hA.rsl.mono (fun b h => ⟨by have := h.2; omega, h.1.2.1, h.1.2.2⟩)
    have hh := heal_calls (.inl hbx) hOx hLx hk1 hil (by omega) hb3 (fun j r h1 h2 h3 => hI.nil j r h1 (.inr ⟨h2, h3⟩)) (fun j r h1 h2 => hI.real j r h1 (by have := (List.getElem?_eq_some_iff.1 h1).1; omega) h2) (fun j r h1 h2 => hI.zero j r h1 (by have := (List.getElem?_eq_some_iff.1 h1).1; omega) (lost_mem.1 h2).1 (lost_mem.1 h2).2)
    rw [hil] at hh
    refine WL.call eg_41 rfl rfl (hh) ?_
    rintro v w7 ⟨rfl, ⟨rs3, hH, hO3⟩, hF7, k7⟩
    have hl3 : rs3.length = k + 3 := by rw [hH.len]; exact hil
    replace hw := hw.chg k7 (fun x h0 h1 => by have h3 : go ≤ x := h1; omega)
    refine WL.assign rfl rfl (WL.nil (WX.then_normal (WC.seq (WC.region (WL.move rfl rfl (?_))))))
    refine WL.neqF rfl rfl rfl (by first | rfl | omega | decide) ?_
    refine WL.nil (WX.then_normal (WC.cond_false rfl (WC.skip (WX.then_normal (WC.seq (WC.seq (WC.region (?_))))))))
    refine WL.move rfl rfl (WL.move rfl rfl (WL.move rfl rfl (?_)))
    have hOr := hO3.toRS (S := fun b => b < gx) (fun x _ h => h)
    refine WL.slice (e := erow) (xs := rs3) (l := 0) (h := k) (k := .i64) (j := .i64) Try.underlying22 Try.sizeOf23 hOr.outer (by show some (Value.slice _ (k + 3) (k + 3)) = some (Value.slice _ rs3.length rs3.length); rw [hl3]) (.inr ⟨rfl, rfl⟩) (.inl rfl) ⟨Nat.zero_le _, by omega⟩ rfl ?_
    intro az cz hz1 nz
    refine WL.move rfl rfl (?_)
    have hcc : RS (fun b => b < gx) _ az cz ((rs3.take k).drop 0) := ⟨hz1, fun r h => hOr.inner r (List.mem_of_mem_take (List.mem_of_mem_drop h))⟩
    have hlk : ((rs3.take k).drop 0).length = k := by simp; omega
    have hgx7 := hF7.lt
    have hlo3 := hO3.lo
    have hblk3 : ∀ (j : Nat) (r : Rw) (g' : Nat), rs3[j]? = some r → r.ao = some ⟨g', 0, none⟩ → g' < gx := fun j r g' h1 h2 => (hO3.at h1 h2).1.2
    have hal : ∀ d ∈ xss ((rs3.take k).drop 0), d.length = n := fun d hd => by
      obtain ⟨j, hj⟩ := List.getElem?_of_mem hd
      have hjk : j < k := by have := (List.getElem?_eq_some_iff.1 hj).1; rw [xss_len, hlk] at this; exact this
      rw [xss_take, List.getElem?_take_of_lt hjk, xss, List.getElem?_map] at hj
      obtain ⟨r3, hr3⟩ : ∃ r3, rs3[j]? = some r3 := ⟨_, List.getElem?_eq_getElem (by omega)⟩
      rw [hr3] at hj
      injection hj with hj
      obtain ⟨r1, hr1, _, _, h5, _⟩ := hH.back hr3
      obtain ⟨_, _, h6⟩ := hI.real j r1 hr1 (by omega) (fun h => by omega)
      rw [← hj, h5, h6]
    refine WL.call eg_42 rfl rfl (sums_calls hF7 hcc (by omega) (by omega) hal) ?_
    rintro v w8 ⟨⟨g2, gs, rfl, hP, hgs3, hg2⟩, k8⟩
    obtain ⟨PP, hPP⟩ : ∃ PP, PP = three (xss ((rs3.take k).drop 0)) n ((rs3.take k).drop 0).length := ⟨_, rfl⟩
    rw [← hPP] at hP
    have hol : (orows gs n PP).length = 3 := by rw [orows_len hP.len, hgs3]
    have zk8 := k8.size
    have hg2l := hP.lto
    have hpx0 : ∀ q, q < 3 → ∃ g x, gs[q]? = some g ∧ (orows gs n PP)[q]? = some ⟨some ⟨g, 0, none⟩, n, x⟩ ∧ PP[q]? = some x ∧ g2 < g ∧ g < w8.heap.size := fun q hq => by
      obtain ⟨g, hg⟩ : ∃ g, gs[q]? = some g := ⟨_, List.getElem?_eq_getElem (by omega)⟩
      obtain ⟨x, hx⟩ : ∃ x, PP[q]? = some x := ⟨_, List.getElem?_eq_getElem (by rw [← hP.len, hgs3]; exact hq)⟩
      refine ⟨g, x, hg, ?_, hx, hP.above q g hg, hP.lt hg⟩
      have := orows_at (tl := []) (n := n) hg hx
      rwa [List.append_nil] at this
    replace hO3 := hO3.chg k8 (fun x _ h1 h2 => by have h3 : gx ≤ x := h2; omega)
    replace hw := hw.chg k8 (fun x h0 h1 => by have h3 : gx ≤ x := h1; omega)
    refine WL.len Try.underlying22 rfl rfl (WL.move rfl rfl (WL.nil (WX.then_normal (WC.block (?_)))))
    have hO4 := hO3.up (N' := w8.heap.size) (by omega)
    refine WC.loop (σ := Nat × List Rw) (fun s => [(8, vi k), (9, .slice (some ⟨go, 0, none⟩) (k + 3) (k + 3)), (79, .slice (some ⟨g2, 0, none⟩) 3 3), (80, vi 3), (81, vi s.1)])
      (fun s w' => s.1 ≤ 3 ∧ FI rs3 (orows gs n PP) bad k s.1 s.2 ∧ OB w' 23 5 go w8.heap.size s.2 ∧ OR w' 23 5 g2 3 gs n PP [] ∧ Chg Nob w w') (fun s => 3 - s.1) (0, rs3) ⟨rfl, rfl, rfl, rfl, rfl, trivial⟩ ⟨Nat.zero_le _, FI.start _ _ hl3, hO4, hP, hw⟩ ?_
    clear hO4 hO3 hP hw
    rintro ⟨q, rs4⟩ w9 ⟨hq, hFI, hO4, hP, hw⟩
    simp only at hq hFI hO4
    dsimp only
    refine WC.seq (WC.region (?_))
    refine WL.lss? rfl rfl rfl (fun h82 => ?_) (fun h82 => ?_)
    ·
      refine WL.nil (WX.then_normal (WC.seq (WC.cond_true rfl (WC.skip (WX.then_normal (WC.seq (WC.block (?_))))))))
      refine WC.seq (WC.region (WL.move rfl rfl (?_)))
      obtain ⟨g, x, hgq, hpx, hPx, hg2g, hg8⟩ := hpx0 q (by omega)
      have hPr := hP.outer.rsl
      rw [List.append_nil] at hPr
      refine WL.indexT (e := erow) Try.underlying22 Try.sizeOf23 hPr (by show some (Value.slice _ 3 3) = some (Value.slice _ (orows gs n PP).length 3); rw [hol]) rfl ⟨hpx, rfl⟩ rfl ?_
      intro bb oo hcc8
      refine WL.load Try.isAgg23 rfl (hcc8 0 _ rfl) rfl ?_
      refine WL.assign rfl rfl (WL.assign rfl rfl (WL.nil (WX.then_normal (WC.seq (WC.region (WL.move rfl rfl (WL.move rfl rfl (?_))))))))
      refine WL.move rfl rfl (?_)
      refine WL.add64 rfl rfl (by constructor <;> omega) rfl ?_
      rw [show ((k : Int) + (q : Int)) = ((k + q : Nat) : Int) from by omega]
      obtain ⟨r4, hr4⟩ : ∃ r, rs4[k + q]? = some r := ⟨_, List.getElem?_eq_getElem (by rw [hFI.len]; omega)⟩
      have hr43 : rs3[k + q]? = some r4 := by rw [← hr4, hFI.par q (by omega), if_neg (by omega)]
      obtain ⟨r1, hr1, hao1, _, _, _⟩ := hH.back hr43
      refine WL.indexT (e := erow) Try.underlying22 Try.sizeOf23 hO4.outer.rsl (by show some (Value.slice _ (k + 3) (k + 3)) = some (Value.slice _ rs4.length rs4.length); rw [hFI.len]) rfl ⟨hr4, rfl⟩ rfl ?_
      intro bb oo hcc9
      refine WL.load Try.isAgg23 rfl (hcc9 0 _ rfl) rfl ?_
      refine WL.isNil Try.underlying23 rfl rfl rfl ?_
      by_cases hbq : ((k + q : Nat) : Int) ∈ bad
      ·
        rw [show r4.ao.isNone = true from by rw [hao1, hI.nil (k + q) r1 hr1 (.inr ⟨by omega, hbq⟩)]; rfl]
        refine WL.nil (WX.then_normal (WC.cond_true rfl (WC.region (WL.move rfl rfl (WL.move rfl rfl (WL.move rfl rfl (?_)))))))
        refine WL.add64 rfl rfl (by constructor <;> omega) rfl ?_
        rw [show ((k : Int) + (q : Int)) = ((k + q : Nat) : Int) from by omega]
        refine WL.move rfl rfl (?_)
        refine WL.index (sz := 1) (j := k + q) Try.underlying22 Try.sizeOf23 rfl rfl rfl (by omega) rfl ?_
        have hfil := hFI.len
        refine WL.storeRow (z := ⟨some ⟨g, 0, none⟩, n, x⟩) (k + q) Try.sizeOf23 hO4.outer rfl rfl rfl (by show 0 + (k + q) * 1 = k + q; omega) (by omega) rfl ?_
        intro w5 z5 ho5 k5
        have hO5 := hO4.put2 (by omega) ⟨by omega, hg8⟩ (fun r hr e => by
          obtain ⟨j, hj⟩ := List.getElem?_of_mem hr
          have hjl := (List.getElem?_eq_some_iff.1 hj).1
          rcases Nat.lt_or_ge j k with h1 | h1
          ·
            rw [hFI.low j h1] at hj
            have := hblk3 j r g hj e
            omega
          ·
            obtain ⟨q', rfl⟩ : ∃ q', j = k + q' := ⟨j - k, by omega⟩
            rw [hFI.par q' (by omega)] at hj
            split at hj
            ·
              rename_i h2
              obtain ⟨g', x', hg', hp', _, _, _⟩ := hpx0 q' (by omega)
              rw [hp'] at hj
              injection hj with hj
              rw [← hj] at e
              injection e with e
              injection e with e
              subst e
              have := hP.apart q' q _ hg' hgq
              omega
            ·
              have := hblk3 _ r g hj e
              omega) (hP.inner q g x hgq hPx) k5 ho5
        have hP5 := hP.chg k5 ⟨fun h => by have h3 : g2 = go := h; omega, fun i' g' h1 h => by have h3 : g' = go := h; have := hP.above i' g' h1; omega⟩
        replace hw := hw.chg k5 (fun x h0 h1 => by have h3 : x = go := h1; omega)
        have hFI5 := hFI.put hbq (by omega) hpx
        refine WL.nil (WX.block_normal (WX.then_normal (WC.region (WL.add64 rfl rfl (by first | omega | (constructor <;> omega)) rfl (WL.move rfl rfl (WL.nil (?_)))))))
        first
          | (have hle : lostL (min (i + 1) k) bad = lostL (min i k) bad := by
               rcases Nat.lt_or_ge i k with h | h
               ·
                 rw [Nat.min_eq_left (by omega), Nat.min_eq_left (by omega), lost_next, if_neg hbi, List.append_nil]
               ·
                 rw [Nat.min_eq_right (by omega), Nat.min_eq_right (by omega)]
             rw [← hle] at hA5 ⊢
             exact WX.loop_next (i + 1, (al, cl), rs1.set i ⟨some ⟨g, 0, none⟩, cg, r.xs⟩) ⟨rfl, rfl, rfl, rfl, rfl, rfl, rfl, rfl, rfl, trivial⟩ ⟨by show i + 1 ≤ _; omega, hI5, hO5, hA5, hc, hb, hw⟩ (by show rs.length - (i + 1) < rs.length - i; omega))
          | exact WX.loop_next (q + 1, rs4.set (k + q) ⟨some ⟨g, 0, none⟩, n, x⟩) ⟨rfl, rfl, rfl, rfl, rfl, trivial⟩ ⟨by show q + 1 ≤ 3; omega, hFI5, hO5, hP5, hw⟩ (by show 3 - (q + 1) < 3 - q; omega)
          | exact WX.loop_next (q + 1, rs4) ⟨rfl, rfl, rfl, rfl, rfl, trivial⟩ ⟨by show q + 1 ≤ 3; omega, hFI.skip hbq, hO4, hP, hw⟩ (by show 3 - (q + 1) < 3 - q; omega)
          | exact WX.loop_next (i + 1, (a9, c9), rs1.set i ⟨some ⟨g, 0, none⟩, n, List.replicate n 0⟩) ⟨rfl, rfl, rfl, rfl, rfl, rfl, rfl, rfl, rfl, trivial⟩ ⟨by show i + 1 ≤ _; omega, hI5, hO9, hA9, hc, hb, hw⟩ (by show rs.length - (i + 1) < rs.length - i; omega)
          | (have hle : lostL (min (i + 1) k) bad = lostL (min i k) bad := by
               rw [Nat.min_eq_right (by omega), Nat.min_eq_right (by omega)]
             have hA5 := hA.mono (S' := fun b => w.heap.size ≤ b ∧ b ≠ go ∧ ∀ s ∈ rs1, s.ao ≠ some ⟨b, 0, none⟩) (fun b h => h.1)
             rw [← hle] at hA5 ⊢
             exact WX.loop_next (i + 1, (al, cl), rs1) ⟨rfl, rfl, rfl, rfl, rfl, rfl, rfl, rfl, rfl, trivial⟩ ⟨by show i + 1 ≤ _; omega, hI.skip ⟨by omega, hbi⟩, hO.up (by omega), hA5, hc, hb, hw⟩ (by show rs.length - (i + 1) < rs.length - i; omega))
      ·
        obtain ⟨gq, hgq4, _⟩ := hI.real (k + q) r1 hr1 (by omega) (fun h => hbq h.2)
        rw [show r4.ao.isNone = false from by rw [hao1, hgq4]; rfl]
        refine WL.nil (WX.then_normal (WC.cond_false rfl (WC.skip (WX.block_normal (WX.then_normal (WC.region (WL.add64 rfl rfl (by first | omega | (constructor <;> omega)) rfl (?_))))))))
        refine WL.move rfl rfl (WL.nil (?_))
        first
          | (have hle : lostL (min (i + 1) k) bad = lostL (min i k) bad := by
               rcases Nat.lt_or_ge i k with h | h
               ·
                 rw [Nat.min_eq_left (by omega), Nat.min_eq_left (by omega), lost_next, if_neg hbi, List.append_nil]
               ·
                 rw [Nat.min_eq_right (by omega), Nat.min_eq_right (by omega)]
             rw [← hle] at hA5 ⊢
             exact WX.loop_next (i + 1, (al, cl), rs1.set i ⟨some ⟨g, 0, none⟩, cg, r.xs⟩) ⟨rfl, rfl, rfl, rfl, rfl, rfl, rfl, rfl, rfl, trivial⟩ ⟨by show i + 1 ≤ _; omega, hI5, hO5, hA5, hc, hb, hw⟩ (by show rs.length - (i + 1) < rs.length - i; omega))
          | exact WX.loop_next (q + 1, rs4.set (k + q) ⟨some ⟨g, 0, none⟩, n, x⟩) ⟨rfl, rfl, rfl, rfl, rfl, trivial⟩ ⟨by show q + 1 ≤ 3; omega, hFI5, hO5, hP5, hw⟩ (by show 3 - (q + 1) < 3 - q; omega)
          | exact WX.loop_next (q + 1, rs4) ⟨rfl, rfl, rfl, rfl, rfl, trivial⟩ ⟨by show q + 1 ≤ 3; omega, hFI.skip hbq, hO4, hP, hw⟩ (by show 3 - (q + 1) < 3 - q; omega)
          | exact WX.loop_next (i + 1, (a9, c9), rs1.set i ⟨some ⟨g, 0, none⟩, n, List.replicate n 0⟩) ⟨rfl, rfl, rfl, rfl, rfl, rfl, rfl, rfl, rfl, trivial⟩ ⟨by show i + 1 ≤ _; omega, hI5, hO9, hA9, hc, hb, hw⟩ (by show rs.length - (i + 1) < rs.length - i; omega)
          | (have hle : lostL (min (i + 1) k) bad = lostL (min i k) bad := by
               rw [Nat.min_eq_right (by omega), Nat.min_eq_right (by omega)]
             have hA5 := hA.mono (S' := fun b => w.heap.size ≤ b ∧ b ≠ go ∧ ∀ s ∈ rs1, s.ao ≠ some ⟨b, 0, none⟩) (fun b h => h.1)
             rw [← hle] at hA5 ⊢
             exact WX.loop_next (i + 1, (al, cl), rs1) ⟨rfl, rfl, rfl, rfl, rfl, rfl, rfl, rfl, rfl, trivial⟩ ⟨by show i + 1 ≤ _; omega, hI.skip ⟨by omega, hbi⟩, hO.up (by omega), hA5, hc, hb, hw⟩ (by show rs.length - (i + 1) < rs.length - i; omega))
    ·
      refine WL.nil (WX.then_normal (WC.seq (WC.cond_false rfl (WC.exit (WX.then_exit (WX.then_exit (WX.block_here (?_))))))))
      refine WX.then_normal (WC.seq (WC.region (WL.move rfl rfl (WL.assign rfl rfl (WL.assign rfl rfl (WL.nil (WX.then_normal (?_))))))))
      refine WC.ret (?_)
      refine WX.ret2 (.inl rfl) Try.results19 rfl rfl ?_
      have hq3 : q = 3 := by omega
      subst hq3
      refine ⟨_, rfl, ⟨go, _, rs4, rfl, hO4, hgo, ?_⟩, hw⟩
      have hI2 := hI
      rw [show i = k + 3 by omega] at hI2
      refine rb_fin hI2 hH hFI.len hFI.low (fun q' h1 h2 => by rw [hFI.par q' h1, if_neg (fun h => h2 h.2)]) (fun q' h1 h2 => ?_)
      obtain ⟨g', x', hg', hp', hx', _, _⟩ := hpx0 q' h1
      refine ⟨_, by rw [hFI.par q' h1, if_pos ⟨h1, h2⟩]; exact hp', ?_⟩
      rw [hPP, three_at h1] at hx'
      injection hx' with hx'
      have htk : (xss rs3).take k = (xss rs4).take k := by
        apply List.ext_getElem?
        intro j
        rcases Nat.lt_or_ge j k with h3 | h3
        ·
          rw [List.getElem?_take_of_lt h3, List.getElem?_take_of_lt h3, xss, xss, List.getElem?_map, List.getElem?_map, hFI.low j h3]
        ·
          rw [List.getElem?_eq_none (by rw [List.length_take]; omega), List.getElem?_eq_none (by rw [List.length_take]; omega)]
      rw [← hx', hlk, xss_take, htk]
end Go.Proofs.Ytjdbjdgobhjbkaa
/-! plain: which errors Rebuild answers for whole columns -/
namespace Go.HL
open Go.RowKit
theorem even_nil {ys : List (List UInt8)} {n : Nat} (hne : 1 ≤ ys.length) (hall : ∀ y ∈ ys, y.length = n) (hn : 1 ≤ n ∧ n ≤ 4096) : EvenB ys [] n := by
  obtain ⟨y, hy⟩ : ∃ y, ys[0]? = some y := ⟨_, List.getElem?_eq_getElem (by omega)⟩
  exact ⟨hn, ⟨0, y, hy, by simp⟩, fun j x hx _ => hall x (List.mem_of_getElem? hx)⟩
theorem err_nil {ys : List (List UInt8)} {n : Nat} (h4 : 4 ≤ ys.length ∧ ys.length ≤ 16) (hall : ∀ y ∈ ys, y.length = n) (hn : 1 ≤ n ∧ n ≤ 4096) : errB ys [] = 0 := by
  rw [errB_ok h4 (fun i b h => by cases h) (by rw [lenB_of (even_nil (by omega) hall hn)]; omega), if_pos (by decide)]
theorem err_past (ys : List (List UInt8)) : errB ys [(ys.length : Int)] = 1 := errB_bad (OkBad.no (i := 0) rfl (by omega))
theorem err_turned (ys : List (List UInt8)) : errB ys [1, 0] = 1 := errB_bad (OkBad.no2 (i := 1) (b := 0) (c := 1) rfl rfl (by decide) (by decide))
theorem err_four {ys : List (List UInt8)} {n : Nat} (h4 : 4 ≤ ys.length ∧ ys.length ≤ 16) (hall : ∀ y ∈ ys, y.length = n) (hn : 1 ≤ n ∧ n ≤ 4096) : errB ys [0, 1, 2, 3] = if ys.length = 4 then 1 else 4 := by
  by_cases h : ys.length = 4
  · rw [if_pos h]
    refine errB_len ?_
    rw [lenB_no]
    · decide
    · rintro ⟨m, _, ⟨j, x, hx, hj⟩, _⟩
      have hjl := (List.getElem?_eq_some_iff.1 hx).1
      have h3 : j = 0 ∨ j = 1 ∨ j = 2 ∨ j = 3 := by omega
      rcases h3 with rfl | rfl | rfl | rfl <;> simp at hj
  · rw [if_neg h]
    obtain ⟨y, hy⟩ : ∃ y, ys[4]? = some y := ⟨_, List.getElem?_eq_getElem (by omega)⟩
    have hev : EvenB ys [0, 1, 2, 3] n := ⟨hn, ⟨4, y, hy, by decide⟩, fun j x hx _ => hall x (List.mem_of_getElem? hx)⟩
    have hok : OkBad ys.length [0, 1, 2, 3] := fun i b hb => by
      have hi : i < 4 := (List.getElem?_eq_some_iff.1 hb).1
      have h3 : i = 0 ∨ i = 1 ∨ i = 2 ∨ i = 3 := by omega
      rcases h3 with rfl | rfl | rfl | rfl
      · injection hb with hb
        subst hb
        exact ⟨by omega, fun c h1 _ => absurd h1 (by decide)⟩
      · injection hb with hb
        subst hb
        exact ⟨by omega, fun c _ h1 => by injection h1 with h1; omega⟩
      · injection hb with hb
        subst hb
        exact ⟨by omega, fun c _ h1 => by injection h1 with h1; omega⟩
      · injection hb with hb
        subst hb
        exact ⟨by omega, fun c _ h1 => by injection h1 with h1; omega⟩
    rw [errB_ok h4 hok (by rw [lenB_of hev]; omega), if_neg (by decide)]
/-- without a bad column all stay as they are -/
theorem rb_nil {cols res : List (List UInt8)} {k n : Nat} (h : RB cols [] k n res) (hl : cols.length = k + 3) : res = cols := by
  apply List.ext_getElem?
  intro j
  rcases Nat.lt_or_ge j (k + 3) with h1 | h1
  · exact h.keep j h1 (by simp)
  · rw [List.getElem?_eq_none (by rw [h.len]; exact h1), List.getElem?_eq_none (by omega)]
end Go.HL
namespace Go.Proofs.Ytjdbjdgobhjbkaa
open Go.RowKit Go.HL

theorem okM_pos2 {rs : List Rw} (h : okM rs) : 0 < rs.length := by
  obtain ⟨n, _, _, _, hne, _⟩ := lenC_some h.2
  rcases Nat.eq_zero_or_pos rs.length with h1 | h1
  · exact absurd (by rw [List.eq_nil_of_length_eq_zero h1]; rfl) hne
  · exact h1
set_option maxHeartbeats 8000000 in
theorem parityBounds_good {w : World} {aa : Option Addr} {ca : Nat} {ra : List Rw} (ha : RS (· < w.heap.size) w aa ca ra) (la : bounded ra) (n : Nat) (h13 : ra.length ≤ 13) (hn : lenC (xss ra) = (n : Int)) :
    Calls Try.prog 8 [.slice aa ra.length ca].toArray w (Ret fun v w' => v = .bool true ∧ Chg Nob w w') := by
  have hw := Chg.refl Nob w
  have hpos := okM_pos2 (rs := ra) ⟨h13, by omega⟩
  obtain ⟨m0, hm, hn1, hn2, hne, hall⟩ := lenC_some (cols := xss ra) (by omega)
  have hmn : m0 = n := by omega
  subst hmn
  have hxl := xss_len ra
  refine Calls.of_WC Try.func8 rfl Try.ntmps8 (by simp) ?_
  refine WC.seq (WC.region (WL.assign rfl rfl (WL.nil (WX.then_normal (WC.seq (WC.seq (WC.region (?_))))))))
  refine WL.call eg_16 rfl rfl (known3_calls _) ?_
  rintro v w0 ⟨rfl, k0⟩
  have zs_k0 := k0.size
  replace ha := ha.pure k0
  replace hw := hw.pure k0
  refine WL.not rfl rfl (WL.move rfl rfl (WL.want rfl rfl rfl (WL.move rfl rfl (WL.want rfl rfl rfl (?_)))))
  refine WL.call eg_17 rfl rfl (small_calls ha la) ?_
  rintro v w0 ⟨⟨s1, rfl⟩, k0⟩
  have zs_k0 := k0.size
  replace ha := ha.pure k0
  replace hw := hw.pure k0
  rcases s1 with _ | _
  ·
    refine WL.want rfl rfl rfl (WL.not rfl rfl (WL.pickF rfl rfl rfl (WL.nil (WX.then_normal (WC.cond_true rfl (WC.seq (WC.region (?_))))))))
    refine WL.call eg_16 rfl rfl (known3_calls _) ?_
    rintro v w0 ⟨rfl, k0⟩
    have zs_k0 := k0.size
    replace ha := ha.pure k0
    replace hw := hw.pure k0
    refine WL.assign rfl rfl (WL.nil (WX.then_normal (WC.ret (WX.then_ret (?_)))))
    refine WX.ret1 (.inl rfl) Try.results8 rfl ?_
    first
      | exact ⟨_, rfl, rfl, hw⟩
      | (exfalso; omega)
  ·
    refine WL.want rfl rfl rfl (WL.not rfl rfl (WL.pickF rfl rfl rfl (WL.nil (WX.then_normal (WC.cond_false rfl (WC.skip (WX.then_normal (?_))))))))
    refine WC.seq (WC.region (WL.move rfl rfl (?_)))
    refine WL.call eg_21 rfl rfl (make_rs ha h13 hn) ?_
    rintro v w0 ⟨⟨ap, cp, ps, rfl, hp, hps⟩, k0⟩
    have zs_k0 := k0.size
    replace ha := ha.pure k0
    replace hw := hw.pure k0
    replace hp := hp.old
    refine WL.move rfl rfl (WL.extract rfl rfl rfl (WL.extract rfl rfl rfl (WL.assign rfl rfl (WL.assign rfl rfl (WL.nil (WX.then_normal (WC.seq (?_))))))))
    refine WC.seq (WC.region (WL.move rfl rfl (?_)))
    refine WL.neqF rfl rfl rfl (by first | rfl | omega | decide) ?_
    refine WL.nil (WX.then_normal (WC.cond_false rfl (WC.skip (WX.then_normal (WC.seq (WC.region (?_)))))))
    refine WL.build (e := erow) [] Try.underlying22 Try.sizeOf23 Try.zeroValue23 rfl rfl rfl (by first | (simp [Value.cells]; done) | (simp [Value.cells] <;> rfl) | (simp [Value.cells, eb, ei, es, ebool, e32, e64]; done)) (by decide) rfl ?_
    intro a_b0 w_b0 b0 l_b0 z_b0 k_b0
    have zs_k_b0 := k_b0.size
    replace ha := ha.pure k_b0
    replace hw := hw.pure k_b0
    replace hp := hp.pure k_b0
    refine WL.move rfl rfl (?_)
    refine WL.append0 (e := erow) info_23 rfl Try.underlying22 rfl rfl b0 (ha.outer.src Try.underlying22) hpos (by constructor <;> omega) rfl ?_
    intro g2 c2 w2 hb2 k2 eg2 z2
    have hps3 : ps.length = 3 := by rw [← xss_len, hps]; rfl
    have zs_k2 := k2.size
    replace ha := ha.pure k2
    replace hw := hw.pure k2
    replace hp := hp.pure k2
    refine WL.move rfl rfl (?_)
    have hpal : ∀ y ∈ xss ps, y.length = m0 := by
      rw [hps]
      intro y hy
      simp only [three, List.mem_cons, List.not_mem_nil, or_false] at hy
      rcases hy with rfl | rfl | rfl <;> exact prow_len hall (by omega)
    refine WL.append (e := erow) info_23 rfl Try.underlying22 rfl rfl (hb2.mono (S' := fun x => g2 ≤ x) (fun b h => by have h3 : b = g2 := h; omega)) (hp.outer.src Try.underlying22) (by constructor <;> omega) (fun b hb => by omega) rfl ?_
    intro ao3 c3 w3 hb3 gg3 n3
    have gc : Chg (fun x => x = g2) _ w3 := gg3.chg.mono (by rintro x _ ⟨⟨a, ea, rfl⟩, _⟩; injection ea with ea; rw [← ea])
    have zs_gc := gc.size
    replace ha := ha.chg gc (by first | (intro x h1 h2; exact h2) | (intro x h1 h2; have h3 : _ = _ := h2; exfalso; omega) | (intro b h1 h2 h3; have h4 : _ = _ := h3; (try dsimp only at h2); exfalso; omega) | (intro h1; have h2 : _ = _ := h1; exfalso; omega) | (intro h1; have h2 : _ ≤ _ := h1; exfalso; omega) | (intros; exfalso; (try dsimp only at *); omega) | (intro b h1 h2 h3; exfalso; have h4 := h3.2; (try dsimp only at *); omega) | (intro h1; exfalso; have h4 := h1.2; (try dsimp only at *); omega))
    replace hw := hw.chg gc (by first | (intro x h1 h2; exact h2) | (intro x h1 h2; have h3 : _ = _ := h2; exfalso; omega) | (intro b h1 h2 h3; have h4 : _ = _ := h3; (try dsimp only at h2); exfalso; omega) | (intro h1; have h2 : _ = _ := h1; exfalso; omega) | (intro h1; have h2 : _ ≤ _ := h1; exfalso; omega) | (intros; exfalso; (try dsimp only at *); omega) | (intro b h1 h2 h3; exfalso; have h4 := h3.2; (try dsimp only at *); omega) | (intro h1; exfalso; have h4 := h1.2; (try dsimp only at *); omega))
    replace hp := hp.chg gc (by first | (intro x h1 h2; exact h2) | (intro x h1 h2; have h3 : _ = _ := h2; exfalso; omega) | (intro b h1 h2 h3; have h4 : _ = _ := h3; (try dsimp only at h2); exfalso; omega) | (intro h1; have h2 : _ = _ := h1; exfalso; omega) | (intro h1; have h2 : _ ≤ _ := h1; exfalso; omega) | (intros; exfalso; (try dsimp only at *); omega) | (intro b h1 h2 h3; exfalso; have h4 := h3.2; (try dsimp only at *); omega) | (intro h1; exfalso; have h4 := h1.2; (try dsimp only at *); omega))
    refine WL.assign rfl rfl (WL.nil (WX.then_normal (WC.seq (WC.region (WL.move rfl rfl (?_))))))
    have hR : RS (fun _ => True) _ ao3 c3 (ra ++ ps) := ⟨hb3.rsl.mono (fun _ _ => trivial), fun r hr => (List.mem_append.1 hr).elim (fun h => (ha.inner r h).mono (fun _ _ => trivial)) (fun h => (hp.inner r h).mono (fun _ _ => trivial))⟩
    replace hR := hR.old
    have hLn : (ra ++ ps).length = ra.length + 3 := by rw [List.length_append, hps3]
    have hxa : xss (ra ++ ps) = xss ra ++ xss ps := by rw [xss, xss, xss, List.map_append]
    have hax : ∀ y ∈ xss (ra ++ ps), y.length = m0 := fun y hy => by
      rw [hxa] at hy
      rcases List.mem_append.1 hy with h1 | h1
      ·
        exact hall y h1
      ·
        exact hpal y h1
    have hxL : (xss (ra ++ ps)).length = ra.length + 3 := by rw [xss_len, hLn]
    have hev := even_nil (ys := xss (ra ++ ps)) (n := m0) (by omega) hax ⟨hn1, hn2⟩
    have hg := rebuild_good hR (RSl.nil (fun _ => True) _ ei none 0) hLn ⟨hpos, h13⟩ (err_nil (by omega) hax ⟨hn1, hn2⟩) (by decide) (lenB_of hev) hev
    refine WL.call eg_19 rfl rfl (hg) ?_
    rintro v w5 ⟨⟨go, N, p2, rfl, hO, hgo, hRB⟩, k5⟩
    have hx2 : xss p2 = xss (ra ++ ps) := rb_nil hRB hxL
    have hl2 : p2.length = ra.length + 3 := by rw [← xss_len, hx2, hxL]
    have hp2 := (hO.toRS (S := fun _ => True) (fun _ _ _ => trivial)).old
    rw [show Value.slice (some ⟨go, 0, none⟩) (ra.length + 3) (ra.length + 3) = Value.slice (some ⟨go, 0, none⟩) p2.length p2.length from by rw [hl2]]
    have zs_k5 := k5.size
    replace ha := ha.pure k5
    replace hw := hw.pure k5
    replace hp := hp.pure k5
    replace hR := hR.pure k5
    refine WL.move rfl rfl (WL.extract rfl rfl rfl (WL.extract rfl rfl rfl (WL.assign rfl rfl (WL.assign rfl rfl (WL.nil (WX.then_normal (WC.seq (?_))))))))
    refine WC.region (WL.move rfl rfl (WL.move rfl rfl (WL.len Try.underlying22 rfl rfl (?_))))
    refine WL.build (e := ei) [((ra ++ ps).length : Int)] Try.underlying33 Try.sizeOf3 Try.zeroValue3 rfl rfl rfl (by first | (simp [Value.cells]; done) | (simp [Value.cells] <;> rfl) | (simp [Value.cells, eb, ei, es, ebool, e32, e64]; done)) (by decide) rfl ?_
    intro a_b43 w_b43 b43 l_b43 z_b43 k_b43
    have zs_k_b43 := k_b43.size
    replace ha := ha.pure k_b43
    replace hw := hw.pure k_b43
    replace hp := hp.pure k_b43
    replace hR := hR.pure k_b43
    replace hp2 := hp2.pure k_b43
    have hb44 := rebuild_bad hR b43.rsl (by omega) (by show 1 ≤ _; decide) (by rw [← xss_len, err_past]; decide)
    rw [← xss_len (ra ++ ps), err_past] at hb44
    rw [xss_len] at hb44
    refine WL.call eg_19 rfl rfl (hb44) ?_
    rintro v w6 ⟨rfl, k6⟩
    have zs_k6 := k6.size
    replace ha := ha.pure k6
    replace hw := hw.pure k6
    replace hp := hp.pure k6
    replace hR := hR.pure k6
    replace hp2 := hp2.pure k6
    refine WL.move rfl rfl (WL.extract rfl rfl rfl (WL.extract rfl rfl rfl (WL.assign rfl rfl (WL.assign rfl rfl (WL.nil (WX.then_normal (WC.seq (?_))))))))
    refine WC.region (WL.move rfl rfl (?_))
    refine WL.build (e := ei) [1, 0] Try.underlying33 Try.sizeOf3 Try.zeroValue3 rfl rfl rfl (by first | (simp [Value.cells]; done) | (simp [Value.cells] <;> rfl) | (simp [Value.cells, eb, ei, es, ebool, e32, e64]; done)) (by decide) rfl ?_
    intro a_b49 w_b49 b49 l_b49 z_b49 k_b49
    have zs_k_b49 := k_b49.size
    replace ha := ha.pure k_b49
    replace hw := hw.pure k_b49
    replace hp := hp.pure k_b49
    replace hR := hR.pure k_b49
    replace hp2 := hp2.pure k_b49
    have hb50 := rebuild_bad hR b49.rsl (by omega) (by show 2 ≤ _; decide) (by rw [err_turned]; decide)
    rw [err_turned] at hb50
    refine WL.call eg_19 rfl rfl (hb50) ?_
    rintro v w7 ⟨rfl, k7⟩
    have zs_k7 := k7.size
    replace ha := ha.pure k7
    replace hw := hw.pure k7
    replace hp := hp.pure k7
    replace hR := hR.pure k7
    replace hp2 := hp2.pure k7
    refine WL.move rfl rfl (WL.extract rfl rfl rfl (WL.extract rfl rfl rfl (WL.assign rfl rfl (WL.assign rfl rfl (WL.nil (WX.then_normal (WC.seq (?_))))))))
    refine WC.region (WL.move rfl rfl (?_))
    refine WL.build (e := ei) [0, 1, 2, 3] Try.underlying33 Try.sizeOf3 Try.zeroValue3 rfl rfl rfl (by first | (simp [Value.cells]; done) | (simp [Value.cells] <;> rfl) | (simp [Value.cells, eb, ei, es, ebool, e32, e64]; done)) (by decide) rfl ?_
    intro a_b55 w_b55 b55 l_b55 z_b55 k_b55
    have zs_k_b55 := k_b55.size
    replace ha := ha.pure k_b55
    replace hw := hw.pure k_b55
    replace hp := hp.pure k_b55
    replace hR := hR.pure k_b55
    replace hp2 := hp2.pure k_b55
    have hb56 := rebuild_bad hR b55.rsl (by omega) (by show 4 ≤ _; decide) (by rw [err_four (by omega) hax ⟨hn1, hn2⟩]; split <;> decide)
    rw [err_four (by omega) hax ⟨hn1, hn2⟩] at hb56
    refine WL.call eg_19 rfl rfl (hb56) ?_
    rintro v w8 ⟨rfl, k8⟩
    have zs_k8 := k8.size
    replace ha := ha.pure k8
    replace hw := hw.pure k8
    replace hp := hp.pure k8
    replace hR := hR.pure k8
    replace hp2 := hp2.pure k8
    by_cases h4 : (xss (ra ++ ps)).length = 4
    ·
      rw [if_pos h4]
      refine WL.move rfl rfl (WL.extract rfl rfl rfl (WL.extract rfl rfl rfl (WL.assign rfl rfl (WL.assign rfl rfl (WL.nil (WX.then_normal (WC.seq (?_))))))))
      refine WC.seq (WC.region (WL.move rfl rfl (?_)))
      refine WL.neqF rfl rfl rfl (by first | rfl | omega | decide) ?_
      refine WL.move rfl rfl (WL.want rfl rfl rfl (WL.move rfl rfl (WL.want rfl rfl rfl (WL.move rfl rfl (WL.want rfl rfl rfl (?_))))))
      refine WL.call eg_20 rfl rfl (same_calls hp2 hR (by omega)) ?_
      rintro v w9 ⟨rfl, k9⟩
      rw [hx2, show decide (xss (ra ++ ps) = xss (ra ++ ps)) = true from decide_eq_true rfl]
      have zs_k9 := k9.size
      replace ha := ha.pure k9
      replace hw := hw.pure k9
      replace hp := hp.pure k9
      replace hR := hR.pure k9
      replace hp2 := hp2.pure k9
      refine WL.want rfl rfl rfl (WL.not rfl rfl (WL.pickF rfl rfl rfl (WL.move rfl rfl (WL.want rfl rfl rfl (WL.move rfl rfl (WL.want rfl rfl rfl (?_)))))))
      refine WL.neqF rfl rfl rfl (by first | rfl | omega | decide) ?_
      refine WL.pickF rfl rfl rfl (WL.move rfl rfl (WL.want rfl rfl rfl (WL.move rfl rfl (WL.want rfl rfl rfl (?_)))))
      refine WL.neqF rfl rfl rfl (by first | rfl | omega | decide) ?_
      refine WL.pickF rfl rfl rfl (WL.nil (WX.then_normal (WC.cond_false rfl (WC.skip (WX.then_normal (WC.seq (WC.region (?_))))))))
      refine WL.move rfl rfl (?_)
      refine WL.eql? rfl rfl rfl (fun h76 => ?_) (fun h76 => ?_)
      ·
        refine WL.move rfl rfl (WL.pass rfl rfl rfl rfl (WL.pass rfl rfl rfl rfl (WL.pass rfl rfl rfl rfl (WL.pass rfl rfl rfl rfl (WL.passU rfl rfl rfl (WL.passU rfl rfl rfl (WL.pass rfl rfl rfl rfl (?_))))))))
        refine WL.pickT rfl rfl rfl (WL.assign rfl rfl (WL.nil (WX.then_normal (WC.ret (?_)))))
        refine WX.ret1 (.inl rfl) Try.results8 rfl ?_
        first
          | exact ⟨_, rfl, rfl, hw⟩
          | (exfalso; omega)
      ·
        refine WL.move rfl rfl (WL.want rfl rfl rfl (WL.move rfl rfl (WL.want rfl rfl rfl (WL.len Try.underlying22 rfl rfl (WL.want rfl rfl rfl (?_))))))
        refine WL.eql? rfl rfl rfl (fun h80 => ?_) (fun h80 => ?_)
        ·
          refine WL.want rfl rfl rfl (WL.move rfl rfl (WL.want rfl rfl rfl (WL.move rfl rfl (WL.want rfl rfl rfl (WL.eql rfl rfl rfl (WL.want rfl rfl rfl (WL.pickT rfl rfl rfl (?_))))))))
          refine WL.pickF rfl rfl rfl (WL.assign rfl rfl (WL.nil (WX.then_normal (WC.ret (?_)))))
          refine WX.ret1 (.inl rfl) Try.results8 rfl ?_
          first
            | exact ⟨_, rfl, rfl, hw⟩
            | (exfalso; omega)
        ·
          refine WL.want rfl rfl rfl (WL.move rfl rfl (WL.pass rfl rfl rfl rfl (WL.pass rfl rfl rfl rfl (WL.want rfl rfl rfl (WL.pickF rfl rfl rfl (WL.pickF rfl rfl rfl (WL.assign rfl rfl (?_))))))))
          refine WL.nil (WX.then_normal (WC.ret (?_)))
          refine WX.ret1 (.inl rfl) Try.results8 rfl ?_
          first
            | exact ⟨_, rfl, rfl, hw⟩
            | (exfalso; omega)
    ·
      rw [if_neg h4]
      refine WL.move rfl rfl (WL.extract rfl rfl rfl (WL.extract rfl rfl rfl (WL.assign rfl rfl (WL.assign rfl rfl (WL.nil (WX.then_normal (WC.seq (?_))))))))
      refine WC.seq (WC.region (WL.move rfl rfl (?_)))
      refine WL.neqF rfl rfl rfl (by first | rfl | omega | decide) ?_
      refine WL.move rfl rfl (WL.want rfl rfl rfl (WL.move rfl rfl (WL.want rfl rfl rfl (WL.move rfl rfl (WL.want rfl rfl rfl (?_))))))
      refine WL.call eg_20 rfl rfl (same_calls hp2 hR (by omega)) ?_
      rintro v w9 ⟨rfl, k9⟩
      rw [hx2, show decide (xss (ra ++ ps) = xss (ra ++ ps)) = true from decide_eq_true rfl]
      have zs_k9 := k9.size
      replace ha := ha.pure k9
      replace hw := hw.pure k9
      replace hp := hp.pure k9
      replace hR := hR.pure k9
      replace hp2 := hp2.pure k9
      refine WL.want rfl rfl rfl (WL.not rfl rfl (WL.pickF rfl rfl rfl (WL.move rfl rfl (WL.want rfl rfl rfl (WL.move rfl rfl (WL.want rfl rfl rfl (?_)))))))
      refine WL.neqF rfl rfl rfl (by first | rfl | omega | decide) ?_
      refine WL.pickF rfl rfl rfl (WL.move rfl rfl (WL.want rfl rfl rfl (WL.move rfl rfl (WL.want rfl rfl rfl (?_)))))
      refine WL.neqF rfl rfl rfl (by first | rfl | omega | decide) ?_
      refine WL.pickF rfl rfl rfl (WL.nil (WX.then_normal (WC.cond_false rfl (WC.skip (WX.then_normal (WC.seq (WC.region (?_))))))))
      refine WL.move rfl rfl (?_)
      refine WL.eql? rfl rfl rfl (fun h76 => ?_) (fun h76 => ?_)
      ·
        refine WL.move rfl rfl (WL.pass rfl rfl rfl rfl (WL.pass rfl rfl rfl rfl (WL.pass rfl rfl rfl rfl (WL.pass rfl rfl rfl rfl (WL.passU rfl rfl rfl (WL.passU rfl rfl rfl (WL.pass rfl rfl rfl rfl (?_))))))))
        refine WL.pickT rfl rfl rfl (WL.assign rfl rfl (WL.nil (WX.then_normal (WC.ret (?_)))))
        refine WX.ret1 (.inl rfl) Try.results8 rfl ?_
        first
          | exact ⟨_, rfl, rfl, hw⟩
          | (exfalso; omega)
      ·
        refine WL.move rfl rfl (WL.want rfl rfl rfl (WL.move rfl rfl (WL.want rfl rfl rfl (WL.len Try.underlying22 rfl rfl (WL.want rfl rfl rfl (?_))))))
        refine WL.eql? rfl rfl rfl (fun h80 => ?_) (fun h80 => ?_)
        ·
          refine WL.want rfl rfl rfl (WL.move rfl rfl (WL.want rfl rfl rfl (WL.move rfl rfl (WL.want rfl rfl rfl (WL.eql rfl rfl rfl (WL.want rfl rfl rfl (WL.pickT rfl rfl rfl (?_))))))))
          refine WL.pickF rfl rfl rfl (WL.assign rfl rfl (WL.nil (WX.then_normal (WC.ret (?_)))))
          refine WX.ret1 (.inl rfl) Try.results8 rfl ?_
          first
            | exact ⟨_, rfl, rfl, hw⟩
            | (exfalso; omega)
        ·
          refine WL.want rfl rfl rfl (WL.move rfl rfl (WL.pass rfl rfl rfl rfl (WL.pass rfl rfl rfl rfl (WL.want rfl rfl rfl (WL.pickF rfl rfl rfl (WL.pickF rfl rfl rfl (WL.assign rfl rfl (?_))))))))
          refine WL.nil (WX.then_normal (WC.ret (?_)))
          refine WX.ret1 (.inl rfl) Try.results8 rfl ?_
          first
            | exact ⟨_, rfl, rfl, hw⟩
            | (exfalso; omega)
theorem parityBounds_bad {w : World} {aa : Option Addr} {ca : Nat} {ra : List Rw} (ha : RS (· < w.heap.size) w aa ca ra) (la : bounded ra) (hno : ¬ okM ra) :
    Calls Try.prog 8 [.slice aa ra.length ca].toArray w (Ret fun v w' => v = .bool true ∧ Chg Nob w w') := by
  have hw := Chg.refl Nob w
  refine Calls.of_WC Try.func8 rfl Try.ntmps8 (by simp) ?_
  refine WC.seq (WC.region (WL.assign rfl rfl (WL.nil (WX.then_normal (WC.seq (WC.seq (WC.region (?_))))))))
  refine WL.call eg_16 rfl rfl (known3_calls _) ?_
  rintro v w0 ⟨rfl, k0⟩
  have zs_k0 := k0.size
  replace ha := ha.pure k0
  replace hw := hw.pure k0
  refine WL.not rfl rfl (WL.move rfl rfl (WL.want rfl rfl rfl (WL.move rfl rfl (WL.want rfl rfl rfl (?_)))))
  refine WL.call eg_17 rfl rfl (small_calls ha la) ?_
  rintro v w0 ⟨⟨s1, rfl⟩, k0⟩
  have zs_k0 := k0.size
  replace ha := ha.pure k0
  replace hw := hw.pure k0
  rcases s1 with _ | _
  ·
    refine WL.want rfl rfl rfl (WL.not rfl rfl (WL.pickF rfl rfl rfl (WL.nil (WX.then_normal (WC.cond_true rfl (WC.seq (WC.region (?_))))))))
    refine WL.call eg_16 rfl rfl (known3_calls _) ?_
    rintro v w0 ⟨rfl, k0⟩
    have zs_k0 := k0.size
    replace ha := ha.pure k0
    replace hw := hw.pure k0
    refine WL.assign rfl rfl (WL.nil (WX.then_normal (WC.ret (WX.then_ret (?_)))))
    refine WX.ret1 (.inl rfl) Try.results8 rfl ?_
    exact ⟨_, rfl, rfl, hw⟩
  ·
    refine WL.want rfl rfl rfl (WL.not rfl rfl (WL.pickF rfl rfl rfl (WL.nil (WX.then_normal (WC.cond_false rfl (WC.skip (WX.then_normal (?_))))))))
    refine WC.seq (WC.region (WL.move rfl rfl (?_)))
    refine WL.call eg_21 rfl rfl (make_bad ha la.1 hno) ?_
    rintro v w0 ⟨rfl, k0⟩
    have zs_k0 := k0.size
    replace ha := ha.pure k0
    replace hw := hw.pure k0
    refine WL.move rfl rfl (WL.extract rfl rfl rfl (WL.extract rfl rfl rfl (WL.assign rfl rfl (WL.assign rfl rfl (WL.nil (WX.then_normal (WC.seq (?_))))))))
    refine WC.seq (WC.region (WL.move rfl rfl (?_)))
    refine WL.neqT rfl rfl rfl (by first | rfl | omega | decide) ?_
    refine WL.nil (WX.then_normal (WC.cond_true rfl (WC.seq (WC.region (WL.assign rfl rfl (WL.nil (WX.then_normal (?_))))))))
    refine WC.ret (WX.then_ret (?_))
    refine WX.ret1 (.inl rfl) Try.results8 rfl ?_
    exact ⟨_, rfl, rfl, hw⟩
theorem parityBounds_calls {w : World} {aa : Option Addr} {ca : Nat} {ra : List Rw} (ha : RS (· < w.heap.size) w aa ca ra) (la : bounded ra) :
    Calls Try.prog 8 [.slice aa ra.length ca].toArray w (Ret fun v w' => v = .bool true ∧ Chg Nob w w') := by
  by_cases h : okM ra
  · obtain ⟨n, hn, _⟩ := lenC_some h.2
    exact parityBounds_good ha la n h.1 hn
  · exact parityBounds_bad ha la h
end Go.Proofs.Ytjdbjdgobhjbkaa
