import Derived.Test.YtjdbjdgobhjbkaaQParityHeals3
namespace Go.Proofs.Ytjdbjdgobhjbkaa
open Go.RowKit Go.HL

def nilRw : Rw := ⟨none, 0, []⟩
set_option maxHeartbeats 4000000 in
theorem sums_calls {w : World} {gf n : Nat} {ac : Option Addr} {cc : Nat} {rs : List Rw} (hF : Fld w gf) (hc : RS (fun b => b < gf) w ac cc rs) (hn : n ≤ 4096) (hl : rs.length ≤ 13) (hall : ∀ d ∈ xss rs, d.length = n) :
    Calls Try.prog 42 [.pointer (some ⟨gf, 0, none⟩), .slice ac rs.length cc, vi n, .slice none 0 0].toArray w (Ret fun v w' => (∃ (go : Nat) (gs : List Nat), v = .slice (some ⟨go, 0, none⟩) 3 3 ∧ OR w' 23 5 go 3 gs n (three (xss rs) n rs.length) [] ∧ gs.length = 3 ∧ w.heap.size ≤ go) ∧ Chg (fun x => gf ≤ x) w w') := by
  have hw := Chg.refl (fun x => x = gf) w
  have lgf := hF.lt
  refine Calls.of_WC Try.func42 rfl Try.ntmps42 (by simp) ?_
  refine WC.seq (WC.region (WL.assign rfl rfl (WL.nil (WX.then_normal (WC.seq (WC.region (?_)))))))
  refine WL.make (e := erow) nilRw 3 3 Try.underlying22 info_23 rfl rfl rfl ⟨rfl, rfl, by decide⟩ (by decide) rfl ?_
  intro go wq hq kq zq ego
  rw [show (List.replicate 3 nilRw).length = 3 from rfl]
  have zs_kq := kq.size
  replace hF := hF.pure kq
  replace hc := hc.pure kq
  replace hw := hw.pure kq
  refine WL.assign rfl rfl (WL.nil (WX.then_normal (WC.seq (WC.seq (WC.region (WL.move rfl rfl (WL.len Try.underlying22 rfl rfl (?_))))))))
  refine WL.move rfl rfl (WL.nil (WX.then_normal (WC.block (?_))))
  have lgo : gf < go := by omega
  have hq0 : Row (fun b => b = go) wq 23 erow (some ⟨go, 0, none⟩) 3 (List.replicate 3 nilRw) := ⟨fun a ea => by injection ea with ea; subst ea; rfl, hq.own⟩
  have hO0 : OR wq 23 5 go 3 [] n [] (List.replicate 3 nilRw) := ⟨hq0, fun i g x h => by simp at h, rfl, fun i j g h => by simp at h, fun i g h => by simp at h⟩
  have hwg : w.heap.size ≤ go := by omega
  refine WC.loop (σ := List Nat) (fun gs => [(0, .pointer (some ⟨gf, 0, none⟩)), (1, .slice ac rs.length cc), (2, vi n), (3, .slice none 0 0), (9, .slice (some ⟨go, 0, none⟩) 3 3), (15, vi 3), (16, vi gs.length)])
    (fun gs w' => gs.length ≤ 3 ∧ OR w' 23 5 go 3 gs n (List.replicate gs.length (List.replicate n 0)) (List.replicate (3 - gs.length) nilRw) ∧ Fld w' gf ∧ RS (fun b => b < gf) w' ac cc rs ∧ Chg (fun x => x = gf) w w') (fun gs => 3 - gs.length) [] ⟨rfl, rfl, rfl, rfl, rfl, rfl, rfl, trivial⟩ ⟨by decide, hO0, hF, hc, hw⟩ ?_
  clear hF hc hw hq hq0 hO0
  rintro gs w8 ⟨hg3, hO, hF, hc, hw⟩
  refine WC.seq (WC.region (?_))
  refine WL.lss? rfl rfl rfl (fun h17 => ?_) (fun h17 => ?_)
  ·
    refine WL.nil (WX.then_normal (WC.seq (WC.cond_true rfl (WC.skip (WX.then_normal (WC.seq (WC.block (?_))))))))
    refine WC.seq (WC.region (WL.move rfl rfl (WL.assign rfl rfl (WL.nil (WX.then_normal (WC.region (WL.move rfl rfl (?_))))))))
    refine WL.move rfl rfl (WL.move rfl rfl (?_))
    have lgs : ∀ (j g : Nat), gs[j]? = some g → g < w8.heap.size := fun j g h => hO.lt h
    have lgo8 := hO.lto
    refine WL.make (e := eb) (0 : UInt8) n n Try.underlying23 info_5 rfl rfl rfl ⟨rfl, rfl, Nat.le_refl _⟩ (by constructor <;> omega) rfl ?_
    intro g w9 hg9 k9 z9 eg
    rw [List.length_replicate]
    replace hO := hO.pure k9
    have hgr : Row (fun b => b = g) w9 5 eb (some ⟨g, 0, none⟩) n (List.replicate n 0) := ⟨fun a ea => by injection ea with ea; subst ea; rfl, hg9.own⟩
    obtain ⟨tl, htl⟩ : ∃ tl, List.replicate (3 - gs.length) nilRw = nilRw :: tl ∧ tl = List.replicate (3 - (gs.length + 1)) nilRw := ⟨_, by rw [show 3 - gs.length = (3 - (gs.length + 1)) + 1 from by omega, List.replicate_succ], rfl⟩
    rw [htl.1] at hO
    have hol : (orows gs n (List.replicate gs.length (List.replicate n 0)) ++ nilRw :: tl).length = 3 := by
      rw [List.length_append, orows_len (by rw [List.length_replicate]), htl.2, List.length_cons, List.length_replicate]
      omega
    have zs_k9 := k9.size
    replace hF := hF.pure k9
    replace hc := hc.pure k9
    replace hw := hw.pure k9
    refine WL.index (sz := 1) Try.underlying22 Try.sizeOf23 rfl rfl rfl (by omega) rfl ?_
    refine WL.storeRow (z := ⟨some ⟨g, 0, none⟩, n, List.replicate n 0⟩) gs.length Try.sizeOf23 hO.outer rfl (by show [Value.slice (some ⟨g, 0, none⟩) (List.replicate n 0).length n] = _; rw [List.length_replicate]) rfl (by show 0 + _ * 1 = _; omega) (by omega) rfl ?_
    intro w4 zs4 ho4 k4
    have zs_k4 := k4.size
    replace hF := hF.chg k4 (by first | (intro x h1 h2; exact h2) | (intro x h0 h1 h2; exact hS x h1 h2) | (intro x h0 h1 h2; have h3 : _ = _ := h2; subst h3; exact hSR h1.1) | (intro x h1 h2; have h3 : _ = _ := h2; subst h3; assumption) | (intro x h1 h2; have h3 : _ = _ := h2; exfalso; omega) | (intro b h1 h2 h3; have h4 : _ = _ := h3; (try dsimp only at h2); exfalso; omega) | (intro h1; have h2 : _ = _ := h1; exfalso; omega) | (intro h1; have h2 : _ ≤ _ := h1; exfalso; omega) | (intros; exfalso; (try dsimp only at *); omega) | (intro b h1 h2 h3; exfalso; have h4 := h3.2; (try dsimp only at *); omega) | (intro h1; exfalso; have h4 := h1.2; (try dsimp only at *); omega) | (intro x h1 h2; exfalso; have h4 := h2.2; (try dsimp only at *); omega) | (intro x h1 h2; exact ⟨_, rfl, h2⟩) | (intro x h1 h2; have h4 := h2.1; have h5 := h2.2; exfalso; omega) | (intro x h1 h2; exact h2.1) | (intro x h1 h2; rcases h2.1 with h3 | h3; exact h3; exfalso; omega) | (intro x h1 h2; rcases h2 with h3 | h3; exact h3; exfalso; omega))
    replace hc := hc.chg k4 (by first | (intro x h1 h2; exact h2) | (intro x h0 h1 h2; exact hS x h1 h2) | (intro x h0 h1 h2; have h3 : _ = _ := h2; subst h3; exact hSR h1.1) | (intro x h1 h2; have h3 : _ = _ := h2; subst h3; assumption) | (intro x h1 h2; have h3 : _ = _ := h2; exfalso; omega) | (intro b h1 h2 h3; have h4 : _ = _ := h3; (try dsimp only at h2); exfalso; omega) | (intro h1; have h2 : _ = _ := h1; exfalso; omega) | (intro h1; have h2 : _ ≤ _ := h1; exfalso; omega) | (intros; exfalso; (try dsimp only at *); omega) | (intro b h1 h2 h3; exfalso; have h4 := h3.2; (try dsimp only at *); omega) | (intro h1; exfalso; have h4 := h1.2; (try dsimp only at *); omega) | (intro x h1 h2; exfalso; have h4 := h2.2; (try dsimp only at *); omega) | (intro x h1 h2; exact ⟨_, rfl, h2⟩) | (intro x h1 h2; have h4 := h2.1; have h5 := h2.2; exfalso; omega) | (intro x h1 h2; exact h2.1) | (intro x h1 h2; rcases h2.1 with h3 | h3; exact h3; exfalso; omega) | (intro x h1 h2; rcases h2 with h3 | h3; exact h3; exfalso; omega))
    replace hw := hw.chg k4 (by first | (intro x h1 h2; exact h2) | (intro x h0 h1 h2; exact hS x h1 h2) | (intro x h0 h1 h2; have h3 : _ = _ := h2; subst h3; exact hSR h1.1) | (intro x h1 h2; have h3 : _ = _ := h2; subst h3; assumption) | (intro x h1 h2; have h3 : _ = _ := h2; exfalso; omega) | (intro b h1 h2 h3; have h4 : _ = _ := h3; (try dsimp only at h2); exfalso; omega) | (intro h1; have h2 : _ = _ := h1; exfalso; omega) | (intro h1; have h2 : _ ≤ _ := h1; exfalso; omega) | (intros; exfalso; (try dsimp only at *); omega) | (intro b h1 h2 h3; exfalso; have h4 := h3.2; (try dsimp only at *); omega) | (intro h1; exfalso; have h4 := h1.2; (try dsimp only at *); omega) | (intro x h1 h2; exfalso; have h4 := h2.2; (try dsimp only at *); omega) | (intro x h1 h2; exact ⟨_, rfl, h2⟩) | (intro x h1 h2; have h4 := h2.1; have h5 := h2.2; exfalso; omega) | (intro x h1 h2; exact h2.1) | (intro x h1 h2; rcases h2.1 with h3 | h3; exact h3; exfalso; omega) | (intro x h1 h2; rcases h2 with h3 | h3; exact h3; exfalso; omega))
    have hO2 := hO.snoc (g := g) (x := List.replicate n 0) (by omega) (fun i g' h => by have := lgs i g' h; omega) k4 (fun i g' h e => by have h2 : g' = go := e; have := hO.above i g' h; omega) ho4 (hgr.chg k4 (fun b h1 h2 h3 => by have h4 : b = go := h3; have h5 : b = g := h2; omega))
    refine WL.nil (WX.block_normal (WX.then_normal (WC.region (WL.add64 rfl rfl (by first | omega | (constructor <;> omega)) rfl (WL.move rfl rfl (WL.nil (?_)))))))
    first
      | (refine WX.loop_next (gs ++ [g]) ⟨rfl, rfl, rfl, rfl, rfl, rfl, ?_, trivial⟩ ⟨by rw [List.length_append]; show gs.length + 1 ≤ 3; omega, ?_, hF, hc, hw⟩ (by rw [List.length_append]; show 3 - (gs.length + 1) < 3 - gs.length; omega)
         ·
           rw [List.length_append]
           rfl
         ·
           rw [List.length_append, show gs.length + [g].length = gs.length + 1 from rfl, ← htl.2, List.replicate_succ']
           exact hO2)
      | exact WX.loop_next (i + 1) ⟨rfl, rfl, rfl, rfl, rfl, rfl, trivial⟩ ⟨by omega, hF, hO, hc, hk⟩ (by show _ - _ < _ - _; omega)
  ·
    refine WL.nil (WX.then_normal (WC.seq (WC.cond_false rfl (WC.exit (WX.then_exit (WX.then_exit (WX.block_here (?_))))))))
    refine WX.then_normal (WC.seq (WC.seq (WC.region (WL.move rfl rfl (WL.len Try.underlying22 rfl rfl (WL.move rfl rfl (WL.nil (?_))))))))
    refine WX.then_normal (WC.block (?_))
    have hgs3 : gs.length = 3 := by omega
    rw [hgs3] at hO
    have hO1 : OR w8 23 5 go 3 gs n (three (xss rs) n 0) [] := hO
    refine WC.loop (σ := Nat) (fun i => [(0, .pointer (some ⟨gf, 0, none⟩)), (3, .slice none 0 0), (9, .slice (some ⟨go, 0, none⟩) 3 3), (25, .slice ac rs.length cc), (26, vi rs.length), (27, vi i)])
      (fun i w' => i ≤ rs.length ∧ Fld w' gf ∧ OR w' 23 5 go 3 gs n (three (xss rs) n i) [] ∧ RS (fun b => b < gf) w' ac cc rs ∧ Chg (fun x => gf ≤ x) w8 w') (fun i => rs.length - i) 0 ⟨rfl, rfl, rfl, rfl, rfl, rfl, trivial⟩ ⟨Nat.zero_le _, hF, hO1, hc, Chg.refl _ _⟩ ?_
    clear hO hO1 hF hc
    rintro i w7 ⟨hi, hF, hO, hc, hk⟩
    refine WC.seq (WC.region (?_))
    refine WL.lss? rfl rfl rfl (fun h28 => ?_) (fun h28 => ?_)
    ·
      refine WL.nil (WX.then_normal (WC.seq (WC.cond_true rfl (WC.skip (WX.then_normal (WC.seq (WC.block (?_))))))))
      refine WC.seq (WC.region (WL.move rfl rfl (?_)))
      obtain ⟨r, hr⟩ : ∃ r, rs[i]? = some r := ⟨_, List.getElem?_eq_getElem (by omega)⟩
      have hrl := hall _ (xss_mem hr)
      have hcr := hc.at hr
      have hget : (xss rs).getD i [] = r.xs := by rw [List.getD_eq_getElem?_getD, xss, List.getElem?_map, hr]; rfl
      refine WL.indexT Try.underlying22 Try.sizeOf23 hc.outer rfl rfl ⟨hr, rfl⟩ rfl ?_
      intro b_1 o_1 hc_1
      refine WL.load Try.isAgg23 rfl (hc_1 0 _ rfl) rfl (WL.assign rfl rfl (WL.assign rfl rfl (WL.nil (WX.then_normal (WC.seq (WC.region (WL.move rfl rfl (?_))))))))
      refine WL.move rfl rfl (?_)
      refine WL.call eg_39 rfl rfl (contains_calls (RSl.nil (fun _ => True) _ ei none 0) (by decide) _) ?_
      rintro v w3 ⟨rfl, k⟩
      rw [show decide ((i : Int) ∈ ([] : List Int)) = false from rfl]
      have zs_k := k.size
      replace hF := hF.pure k
      replace hO := hO.pure k
      replace hc := hc.pure k
      replace hk := hk.pure k
      replace hcr := hcr.pure k
      refine WL.not rfl rfl (WL.nil (WX.then_normal (WC.cond_true rfl (WC.region (WL.move rfl rfl (WL.move rfl rfl (WL.move rfl rfl (?_))))))))
      refine WL.move rfl rfl (?_)
      have hl3 : ∀ y ∈ three (xss rs) n i, y.length = n := by
        have hp : ∀ q, (prow (wtq q) (xss rs) n i).length = n := fun q => prow_len hall (by rw [xss, List.length_map]; omega)
        intro y hy
        simp only [three, List.mem_cons, List.not_mem_nil, or_false] at hy
        rcases hy with rfl | rfl | rfl <;> exact hp _
      refine WL.call eg_51 rfl rfl (add_calls hF hO hgs3 hl3 hcr hrl lgo i hn) ?_
      rintro v w4 ⟨rfl, hR, hO2, k⟩
      rw [← hget, three_next] at hO2
      have zs_k := k.size
      replace hc := hc.chg k (by first | (intro x h1 h2; exact h2) | (intro x h0 h1 h2; exact hS x h1 h2) | (intro x h0 h1 h2; have h3 : _ = _ := h2; subst h3; exact hSR h1.1) | (intro x h1 h2; have h3 : _ = _ := h2; subst h3; assumption) | (intro x h1 h2; have h3 : _ = _ := h2; exfalso; omega) | (intro b h1 h2 h3; have h4 : _ = _ := h3; (try dsimp only at h2); exfalso; omega) | (intro h1; have h2 : _ = _ := h1; exfalso; omega) | (intro h1; have h2 : _ ≤ _ := h1; exfalso; omega) | (intros; exfalso; (try dsimp only at *); omega) | (intro b h1 h2 h3; exfalso; have h4 := h3.2; (try dsimp only at *); omega) | (intro h1; exfalso; have h4 := h1.2; (try dsimp only at *); omega) | (intro x h1 h2; exfalso; have h4 := h2.2; (try dsimp only at *); omega) | (intro x h1 h2; exact ⟨_, rfl, h2⟩) | (intro x h1 h2; have h4 := h2.1; have h5 := h2.2; exfalso; omega) | (intro x h1 h2; exact h2.1) | (intro x h1 h2; rcases h2.1 with h3 | h3; exact h3; exfalso; omega) | (intro x h1 h2; rcases h2 with h3 | h3; exact h3; exfalso; omega))
      replace hk := hk.chg k (fun x _ h => h)
      replace hF : Fld w4 gf := .inr hR
      replace hO := hO2
      refine WL.nil (WX.block_normal (WX.then_normal (WC.region (WL.add64 rfl rfl (by first | omega | (constructor <;> omega)) rfl (WL.move rfl rfl (WL.nil (?_)))))))
      first
        | (refine WX.loop_next (gs ++ [g]) ⟨rfl, rfl, rfl, rfl, rfl, rfl, ?_, trivial⟩ ⟨by rw [List.length_append]; show gs.length + 1 ≤ 3; omega, ?_, hF, hc, hw⟩ (by rw [List.length_append]; show 3 - (gs.length + 1) < 3 - gs.length; omega)
           ·
             rw [List.length_append]
             rfl
           ·
             rw [List.length_append, show gs.length + [g].length = gs.length + 1 from rfl, ← htl.2, List.replicate_succ']
             exact hO2)
        | exact WX.loop_next (i + 1) ⟨rfl, rfl, rfl, rfl, rfl, rfl, trivial⟩ ⟨by omega, hF, hO, hc, hk⟩ (by show _ - _ < _ - _; omega)
    ·
      refine WL.nil (WX.then_normal (WC.seq (WC.cond_false rfl (WC.exit (WX.then_exit (WX.then_exit (WX.block_here (?_))))))))
      refine WX.then_normal (WC.seq (WC.region (WL.move rfl rfl (WL.assign rfl rfl (WL.nil (WX.then_normal (WC.ret (?_))))))))
      refine WX.ret1 (.inl rfl) Try.results42 rfl ?_
      have hil : i = rs.length := by omega
      subst hil
      refine ⟨_, rfl, ⟨go, gs, rfl, hO, hgs3, hwg⟩, ?_⟩
      exact (hw.mono (M' := fun x => gf ≤ x) (fun x _ h => by have h2 : x = gf := h; omega)).chg hk (fun x h1 h2 => h2)
/-- the three parities of columns -/
theorem make_good {S : Nat → Prop} {w : World} {ac : Option Addr} {cc : Nat} {rs : List Rw} {n : Nat} (hc : RS S w ac cc rs) (h13 : rs.length ≤ 13) (hn : lenC (xss rs) = (n : Int)) :
    Calls Try.prog 21 [.slice ac rs.length cc].toArray w (Ret fun v w' => (∃ (go : Nat) (gs : List Nat), v = .tuple #[.slice (some ⟨go, 0, none⟩) 3 3, vi 0] ∧ OR w' 23 5 go 3 gs n (three (xss rs) n rs.length) [] ∧ gs.length = 3 ∧ w.heap.size ≤ go) ∧ Chg Nob w w') := by
  replace hc := hc.old
  have hw := Chg.refl Nob w
  obtain ⟨m, hm, hm1, hm2, hne, hall⟩ := lenC_some (cols := xss rs) (by omega)
  have hmn : m = n := by omega
  subst hmn
  refine Calls.of_WC Try.func21 rfl Try.ntmps21 (by simp) ?_
  refine WC.seq (WC.region (WL.assign rfl rfl (WL.assign rfl rfl (WL.nil (WX.then_normal (WC.seq (WC.region (?_))))))))
  refine WL.move rfl rfl (?_)
  refine WL.call eg_43 rfl rfl (length_calls hc (by omega)) ?_
  rintro v w1 ⟨rfl, k⟩
  rw [hm]
  have zs_k := k.size
  replace hc := hc.pure k
  replace hw := hw.pure k
  refine WL.assign rfl rfl (WL.nil (WX.then_normal (WC.seq (WC.seq (WC.region (WL.move rfl rfl (WL.len Try.underlying22 rfl rfl (?_))))))))
  refine WL.gtr rfl rfl rfl ?_
  rw [show decide ((rs.length : Int) > 13) = false from decide_eq_false (by omega)]
  refine WL.move rfl rfl (WL.want rfl rfl rfl (WL.move rfl rfl (WL.want rfl rfl rfl (?_))))
  refine WL.lss rfl rfl rfl ?_
  rw [show decide ((m : Int) < 0) = false from decide_eq_false (by omega)]
  refine WL.pickF rfl rfl rfl (WL.nil (WX.then_normal (WC.cond_false rfl (WC.skip (WX.then_normal (WC.seq (WC.region (?_))))))))
  refine WL.bld rfl bldF rfl ?_
  refine WL.box rfl rfl ?_
  intro g_1 w_1 hge_1 hlt_1 hb_1 k_1
  have zs_k_1 := k_1.size
  replace hc := hc.pure k_1
  replace hw := hw.pure k_1
  refine WL.move rfl rfl (WL.move rfl rfl (?_))
  have hF : Fld w_1 g_1 := .inl hb_1
  have zw0 := hw.size
  have hc2 : RS (fun b => b < g_1) w_1 ac cc rs := hc.mono (fun b hb => by have := k_1.size; omega)
  refine WL.call eg_42 rfl rfl (sums_calls hF hc2 (by omega) h13 hall) ?_
  rintro v w2 ⟨⟨go, gs, rfl, hO, hgs, hgo⟩, k⟩
  have zs_k := k.size
  replace hw := hw.chg k (by first | (intro x h1 h2; exact h2) | (intro x h0 h1 h2; exact hS x h1 h2) | (intro x h0 h1 h2; have h3 : _ = _ := h2; subst h3; exact hSR h1.1) | (intro x h1 h2; have h3 : _ = _ := h2; subst h3; assumption) | (intro x h1 h2; have h3 : _ = _ := h2; exfalso; omega) | (intro b h1 h2 h3; have h4 : _ = _ := h3; (try dsimp only at h2); exfalso; omega) | (intro h1; have h2 : _ = _ := h1; exfalso; omega) | (intro h1; have h2 : _ ≤ _ := h1; exfalso; omega) | (intros; exfalso; (try dsimp only at *); omega) | (intro b h1 h2 h3; exfalso; have h4 := h3.2; (try dsimp only at *); omega) | (intro h1; exfalso; have h4 := h1.2; (try dsimp only at *); omega) | (intro x h1 h2; exfalso; have h4 := h2.2; (try dsimp only at *); omega) | (intro x h1 h2; exact ⟨_, rfl, h2⟩) | (intro x h1 h2; have h4 := h2.1; have h5 := h2.2; exfalso; omega) | (intro x h1 h2; exact h2.1) | (intro x h1 h2; rcases h2.1 with h3 | h3; exact h3; exfalso; omega) | (intro x h1 h2; rcases h2 with h3 | h3; exact h3; exfalso; omega))
  refine WL.assign rfl rfl (WL.assign rfl rfl (WL.nil (WX.then_normal (WC.ret (?_)))))
  refine WX.ret2 (.inl rfl) Try.results21 rfl rfl ?_
  exact ⟨_, rfl, ⟨go, gs, rfl, hO, hgs, by omega⟩, hw⟩
theorem make_bad {S : Nat → Prop} {w : World} {ac : Option Addr} {cc : Nat} {rs : List Rw} (hc : RS S w ac cc rs) (hl : rs.length * 24 ≤ 140737488351232) (h : ¬ (rs.length ≤ 13 ∧ 0 ≤ lenC (xss rs))) :
    Calls Try.prog 21 [.slice ac rs.length cc].toArray w (Ret fun v w' => v = .tuple #[.slice none 0 0, vi 1] ∧ Chg Nob w w') := by
  replace hc := hc.old
  have hw := Chg.refl Nob w
  refine Calls.of_WC Try.func21 rfl Try.ntmps21 (by simp) ?_
  refine WC.seq (WC.region (WL.assign rfl rfl (WL.assign rfl rfl (WL.nil (WX.then_normal (WC.seq (WC.region (?_))))))))
  refine WL.move rfl rfl (?_)
  refine WL.call eg_43 rfl rfl (length_calls hc (by omega)) ?_
  rintro v w1 ⟨rfl, k⟩
  have zs_k := k.size
  replace hc := hc.pure k
  replace hw := hw.pure k
  refine WL.assign rfl rfl (WL.nil (WX.then_normal (WC.seq (WC.seq (WC.region (WL.move rfl rfl (WL.len Try.underlying22 rfl rfl (?_))))))))
  refine WL.gtr? rfl rfl rfl (fun h9 => ?_) (fun h9 => ?_)
  ·
    refine WL.move rfl rfl (WL.pass rfl rfl rfl rfl (WL.pass rfl rfl rfl rfl (WL.pickT rfl rfl rfl (WL.nil (WX.then_normal (WC.cond_true rfl (WC.seq (?_))))))))
    refine WC.region (WL.assign rfl rfl (WL.assign rfl rfl (WL.nil (WX.then_normal (WC.ret (WX.then_ret (?_)))))))
    refine WX.ret2 (.inl rfl) Try.results21 rfl rfl ?_
    exact ⟨_, rfl, rfl, hw⟩
  ·
    refine WL.move rfl rfl (WL.want rfl rfl rfl (WL.move rfl rfl (WL.want rfl rfl rfl (?_))))
    refine WL.lss? rfl rfl rfl (fun h12 => ?_) (fun h12 => ?_)
    ·
      refine WL.pickF rfl rfl rfl (WL.nil (WX.then_normal (WC.cond_true rfl (WC.seq (WC.region (WL.assign rfl rfl (WL.assign rfl rfl (?_))))))))
      refine WL.nil (WX.then_normal (WC.ret (WX.then_ret (?_))))
      refine WX.ret2 (.inl rfl) Try.results21 rfl rfl ?_
      exact ⟨_, rfl, rfl, hw⟩
    ·
      refine WL.pickF rfl rfl rfl (WL.nil (WX.then_normal (WC.cond_false rfl (WC.skip (WX.then_normal (WC.seq (WC.region (?_))))))))
      exfalso
      exact h ⟨by omega, by omega⟩
end Go.Proofs.Ytjdbjdgobhjbkaa
namespace Go.Proofs.Ytjdbjdgobhjbkaa
open Go.RowKit Go.HL

theorem xss_orows : ∀ {gs : List Nat} {n : Nat} {ys : List (List UInt8)}, gs.length = ys.length → xss (orows gs n ys) = ys
  | [], n, [], _ => rfl
  | g :: gs, n, y :: ys, h => by
    have ih := xss_orows (gs := gs) (n := n) (ys := ys) (by simpa using h)
    simp only [xss, orows] at ih
    simp [xss, orows, ih]
  | [], n, y :: ys, h => by simp at h
  | g :: gs, n, [], h => by simp at h
theorem make_rs {S : Nat → Prop} {w : World} {ac : Option Addr} {cc : Nat} {rs : List Rw} {n : Nat} (hc : RS S w ac cc rs) (h13 : rs.length ≤ 13) (hn : lenC (xss rs) = (n : Int)) :
    Calls Try.prog 21 [.slice ac rs.length cc].toArray w (Ret fun v w' => (∃ (ao : Option Addr) (c : Nat) (ps : List Rw), v = .tuple #[.slice ao ps.length c, vi 0] ∧ RS (w.heap.size ≤ ·) w' ao c ps ∧ xss ps = three (xss rs) n rs.length) ∧ Chg Nob w w') := by
  refine (make_good hc h13 hn).mono ?_
  rintro e w' ⟨v, rfl, ⟨go, gs, rfl, hO, hg, hgo⟩, hw⟩
  have hl : gs.length = (three (xss rs) n rs.length).length := hO.len
  refine ⟨_, rfl, ⟨some ⟨go, 0, none⟩, 3, orows gs n (three (xss rs) n rs.length), ?_, hO.rs hgo (fun i g h => by have := hO.above i g h; omega), xss_orows hl⟩, hw⟩
  rw [orows_len hl, hg]
/-! the same columns? -/
set_option maxHeartbeats 1000000 in
theorem same_calls {S1 S2 : Nat → Prop} {w : World} {aa ab : Option Addr} {ca cb : Nat} {us vs : List Rw} (ha : RS S1 w aa ca us) (hb : RS S2 w ab cb vs) (hla : us.length ≤ 1000000000) :
    Calls Try.prog 20 [.slice aa us.length ca, .slice ab vs.length cb].toArray w (Ret fun v w' => v = .bool (decide (xss us = xss vs)) ∧ Chg Nob w w') := by
  replace ha := ha.old
  replace hb := hb.old
  have hw := Chg.refl Nob w
  refine Calls.of_WC Try.func20 rfl Try.ntmps20 (by simp) ?_
  refine WC.seq (WC.region (WL.assign rfl rfl (WL.nil (WX.then_normal (WC.seq (WC.seq (WC.region (?_))))))))
  refine WL.move rfl rfl (WL.len Try.underlying22 rfl rfl (WL.move rfl rfl (WL.len Try.underlying22 rfl rfl (?_))))
  refine WL.neq? rfl rfl rfl (fun h10 => ?_) (fun h10 => ?_)
  ·
    refine WL.nil (WX.then_normal (WC.cond_true rfl (WC.seq (WC.region (WL.assign rfl rfl (WL.nil (WX.then_normal (?_))))))))
    refine WC.ret (WX.then_ret (?_))
    refine WX.ret1 (.inl rfl) Try.results20 rfl ?_
    first
      | (refine ⟨_, rfl, congrArg Value.bool (decide_eq_false (fun h => ?_)).symm, hw⟩
         have h1 : (xss us)[i]? = (xss vs)[i]? := by rw [h]
         rw [xss, xss, List.getElem?_map, List.getElem?_map, hx, hy] at h1
         injection h1 with h1
         exact h27 (by rw [h1]))
      | (refine ⟨_, rfl, congrArg Value.bool (decide_eq_false (fun h => ?_)).symm, hw⟩
         have h1 := congrArg List.length h
         rw [xss, xss, List.length_map, List.length_map] at h1
         omega)
      | (refine ⟨_, rfl, congrArg Value.bool (decide_eq_true ?_).symm, hw⟩
         apply List.ext_getElem?
         intro j
         rw [xss, xss, List.getElem?_map, List.getElem?_map]
         rcases Nat.lt_or_ge j us.length with hj | hj
         ·
           obtain ⟨x, hx⟩ : ∃ x, us[j]? = some x := ⟨_, List.getElem?_eq_getElem hj⟩
           obtain ⟨y, hy⟩ : ∃ y, vs[j]? = some y := ⟨_, List.getElem?_eq_getElem (by omega)⟩
           rw [hx, hy, Option.map_some, Option.map_some, hall j x y (by omega) hx hy]
         ·
           rw [List.getElem?_eq_none (by omega), List.getElem?_eq_none (by omega)])
  ·
    refine WL.nil (WX.then_normal (WC.cond_false rfl (WC.skip (WX.then_normal (WC.seq (WC.seq (WC.region (?_))))))))
    refine WL.assign rfl rfl (WL.nil (WX.then_normal (WC.block (?_))))
    refine WC.loop (σ := Nat) (fun i => [(0, .slice aa us.length ca), (1, .slice ab vs.length cb), (5, vi i)])
      (fun i w' => i ≤ us.length ∧ (∀ (j : Nat) (x y : Rw), j < i → us[j]? = some x → vs[j]? = some y → x.xs = y.xs) ∧ RS (· < w.heap.size) w' aa ca us ∧ RS (· < w.heap.size) w' ab cb vs ∧ Chg Nob w w') (fun i => us.length - i) 0 ⟨rfl, rfl, rfl, trivial⟩ ⟨Nat.zero_le _, fun j x y h => absurd h (by omega), ha, hb, hw⟩ ?_
    clear ha hb hw
    rintro i w2 ⟨hi, hall, ha, hb, hw⟩
    refine WC.seq (WC.seq (WC.region (WL.move rfl rfl (WL.move rfl rfl (WL.len Try.underlying22 rfl rfl (?_))))))
    refine WL.lss? rfl rfl rfl (fun h14 => ?_) (fun h14 => ?_)
    ·
      refine WL.nil (WX.then_normal (WC.cond_true rfl (WC.skip (WX.then_normal (WC.seq (WC.block (WC.seq (?_))))))))
      obtain ⟨x, hx⟩ : ∃ x, us[i]? = some x := ⟨_, List.getElem?_eq_getElem (by omega)⟩
      obtain ⟨y, hy⟩ : ∃ y, vs[i]? = some y := ⟨_, List.getElem?_eq_getElem (by omega)⟩
      have hxr := ha.at hx
      have hyr := hb.at hy
      obtain ⟨b1, o1, rfl⟩ := ha.outer.place hx
      obtain ⟨b2, o2, rfl⟩ := hb.outer.place hy
      refine WC.draw (Nob) [0, 1, 2, 3, 4, 5, 6, 7, 8, 9, 10] [] mixed rfl rfl (fun wd_1 kd_1 zd_1 => ?_)
      have zs_kd_1 := kd_1.size
      replace ha := ha.pure kd_1
      replace hb := hb.pure kd_1
      replace hw := hw.pure kd_1
      replace hxr := hxr.pure kd_1
      replace hyr := hyr.pure kd_1
      apply DQ.step (E' := [(0, _)])
      case ho => rfl
      case hs => exact ⟨rfl, trivial⟩
      case hk => rfl
      case h1 =>
        intro wq_2 kq_2
        refine WL.move rfl rfl (?_)
        refine WL.nil ?_
        exact WX.one ⟨rfl, by first | exact Chg.refl _ _ | assumption⟩
      apply DQ.step (E' := [(5, _)])
      case ho => rfl
      case hs => exact ⟨rfl, trivial⟩
      case hk => rfl
      case h1 =>
        intro wq_3 kq_3
        refine WL.move rfl rfl (?_)
        refine WL.nil ?_
        exact WX.one ⟨rfl, by first | exact Chg.refl _ _ | assumption⟩
      apply DQ.step (E' := [(17, _), (18, _)])
      case ho => rfl
      case hs => exact ⟨rfl, rfl, trivial⟩
      case hk => rfl
      case h1 =>
        intro wq_4 kq_4
        have zs_kq_4 := kq_4.size
        replace ha := ha.pure kq_4
        replace hb := hb.pure kq_4
        replace hw := hw.pure kq_4
        replace hxr := hxr.pure kq_4
        replace hyr := hyr.pure kq_4
        refine WL.indexC ha.outer Try.underlying22 Try.sizeOf23 rfl rfl ⟨hx, rfl⟩ rfl ?_
        refine WL.nil ?_
        exact WX.one ⟨rfl, by first | exact Chg.refl _ _ | assumption⟩
      apply DQ.step (E' := [(19, _)])
      case ho => rfl
      case hs => exact ⟨rfl, trivial⟩
      case hk => rfl
      case h1 =>
        intro wq_5 kq_5
        have zs_kq_5 := kq_5.size
        replace ha := ha.pure kq_5
        replace hb := hb.pure kq_5
        replace hw := hw.pure kq_5
        replace hxr := hxr.pure kq_5
        replace hyr := hyr.pure kq_5
        refine WL.load Try.isAgg23 rfl ((ha.outer.cellsAt hx) 0 _ rfl) rfl (?_)
        refine WL.nil ?_
        exact WX.one ⟨rfl, by first | exact Chg.refl _ _ | assumption⟩
      apply DQ.step (E' := [(20, _)])
      case ho => rfl
      case hs => exact ⟨rfl, trivial⟩
      case hk => rfl
      case h1 =>
        intro wq_6 kq_6
        have zs_kq_6 := kq_6.size
        replace ha := ha.pure kq_6
        replace hb := hb.pure kq_6
        replace hw := hw.pure kq_6
        replace hxr := hxr.pure kq_6
        replace hyr := hyr.pure kq_6
        refine WL.toStr Try.underlying23 Try.underlying5 Try.underlying9 hxr rfl rfl ?_
        refine WL.nil ?_
        exact WX.one ⟨rfl, by first | exact Chg.refl _ _ | assumption⟩
      apply DQ.step (E' := [(1, _)])
      case ho => rfl
      case hs => exact ⟨rfl, trivial⟩
      case hk => rfl
      case h1 =>
        intro wq_7 kq_7
        refine WL.move rfl rfl (?_)
        refine WL.nil ?_
        exact WX.one ⟨rfl, by first | exact Chg.refl _ _ | assumption⟩
      apply DQ.step (E' := [(5, _)])
      case ho => rfl
      case hs => exact ⟨rfl, trivial⟩
      case hk => rfl
      case h1 =>
        intro wq_8 kq_8
        refine WL.move rfl rfl (?_)
        refine WL.nil ?_
        exact WX.one ⟨rfl, by first | exact Chg.refl _ _ | assumption⟩
      apply DQ.step (E' := [(22, _), (23, _)])
      case ho => rfl
      case hs => exact ⟨rfl, rfl, trivial⟩
      case hk => rfl
      case h1 =>
        intro wq_9 kq_9
        have zs_kq_9 := kq_9.size
        replace ha := ha.pure kq_9
        replace hb := hb.pure kq_9
        replace hw := hw.pure kq_9
        replace hxr := hxr.pure kq_9
        replace hyr := hyr.pure kq_9
        refine WL.indexC hb.outer Try.underlying22 Try.sizeOf23 rfl rfl ⟨hy, rfl⟩ rfl ?_
        refine WL.nil ?_
        exact WX.one ⟨rfl, by first | exact Chg.refl _ _ | assumption⟩
      apply DQ.step (E' := [(24, _)])
      case ho => rfl
      case hs => exact ⟨rfl, trivial⟩
      case hk => rfl
      case h1 =>
        intro wq_10 kq_10
        have zs_kq_10 := kq_10.size
        replace ha := ha.pure kq_10
        replace hb := hb.pure kq_10
        replace hw := hw.pure kq_10
        replace hxr := hxr.pure kq_10
        replace hyr := hyr.pure kq_10
        refine WL.load Try.isAgg23 rfl ((hb.outer.cellsAt hy) 0 _ rfl) rfl (?_)
        refine WL.nil ?_
        exact WX.one ⟨rfl, by first | exact Chg.refl _ _ | assumption⟩
      apply DQ.step (E' := [(25, _)])
      case ho => rfl
      case hs => exact ⟨rfl, trivial⟩
      case hk => rfl
      case h1 =>
        intro wq_11 kq_11
        have zs_kq_11 := kq_11.size
        replace ha := ha.pure kq_11
        replace hb := hb.pure kq_11
        replace hw := hw.pure kq_11
        replace hxr := hxr.pure kq_11
        replace hyr := hyr.pure kq_11
        refine WL.toStr Try.underlying23 Try.underlying5 Try.underlying9 hyr rfl rfl ?_
        refine WL.nil ?_
        exact WX.one ⟨rfl, by first | exact Chg.refl _ _ | assumption⟩
      apply DQ.split (E' := [(21, _), (26, _)])
      case ho => rfl
      case hs => exact ⟨rfl, rfl, trivial⟩
      case hk => rfl
      case h1 =>
        intro wq_12 kq_12
        refine WL.sneq rfl rfl rfl ?_
        refine WL.nil ?_
        exact WX.one ⟨rfl, by first | exact Chg.refl _ _ | assumption⟩
      case ht =>
        intro h27
        replace h27 := of_decide_eq_true h27
        refine DQ.done (fun _ => ?_)
        refine DL.done (fun we_13 ke_13 => ?_)
        have zs_ke_13 := ke_13.size
        replace ha := ha.pure ke_13
        replace hb := hb.pure ke_13
        replace hw := hw.pure ke_13
        replace hxr := hxr.pure ke_13
        replace hyr := hyr.pure ke_13
        refine WX.then_normal (WC.cond_true rfl (WC.seq (WC.region (WL.assign rfl rfl (WL.nil (WX.then_normal (WC.ret (?_))))))))
        refine WX.block_ret (WX.then_ret (WX.then_ret (WX.block_ret (WX.then_ret (?_)))))
        refine WX.ret1 (.inl rfl) Try.results20 rfl ?_
        first
          | (refine ⟨_, rfl, congrArg Value.bool (decide_eq_false (fun h => ?_)).symm, hw⟩
             have h1 : (xss us)[i]? = (xss vs)[i]? := by rw [h]
             rw [xss, xss, List.getElem?_map, List.getElem?_map, hx, hy] at h1
             injection h1 with h1
             exact h27 (by rw [h1]))
          | (refine ⟨_, rfl, congrArg Value.bool (decide_eq_false (fun h => ?_)).symm, hw⟩
             have h1 := congrArg List.length h
             rw [xss, xss, List.length_map, List.length_map] at h1
             omega)
          | (refine ⟨_, rfl, congrArg Value.bool (decide_eq_true ?_).symm, hw⟩
             apply List.ext_getElem?
             intro j
             rw [xss, xss, List.getElem?_map, List.getElem?_map]
             rcases Nat.lt_or_ge j us.length with hj | hj
             ·
               obtain ⟨x, hx⟩ : ∃ x, us[j]? = some x := ⟨_, List.getElem?_eq_getElem hj⟩
               obtain ⟨y, hy⟩ : ∃ y, vs[j]? = some y := ⟨_, List.getElem?_eq_getElem (by omega)⟩
               rw [hx, hy, Option.map_some, Option.map_some, hall j x y (by omega) hx hy]
             ·
               rw [List.getElem?_eq_none (by omega), List.getElem?_eq_none (by omega)])
      case hf =>
        intro h27
        replace h27 := of_decide_eq_false h27
        refine DQ.done (fun _ => ?_)
        refine DL.done (fun we_13 ke_13 => ?_)
        have zs_ke_13 := ke_13.size
        replace ha := ha.pure ke_13
        replace hb := hb.pure ke_13
        replace hw := hw.pure ke_13
        replace hxr := hxr.pure ke_13
        replace hyr := hyr.pure ke_13
        refine WX.then_normal (WC.cond_false rfl (WC.skip (WX.block_normal (WX.then_normal (WC.region (WL.move rfl rfl (WL.add64 rfl rfl (by first | omega | (constructor <;> omega)) rfl (?_))))))))
        refine WL.assign rfl rfl (WL.nil (?_))
        refine WX.loop_next (i + 1) ⟨rfl, rfl, rfl, trivial⟩ ⟨by omega, fun j x' y' h h1 h2 => ?_, ha, hb, hw⟩ (by show _ - _ < _ - _; omega)
        rcases Nat.lt_or_ge j i with h3 | h3
        ·
          exact hall j x' y' h3 h1 h2
        ·
          have hji : j = i := by omega
          subst hji
          rw [hx] at h1
          rw [hy] at h2
          injection h1 with h1
          injection h2 with h2
          have h4 := congrArg (fun s : ByteArray => s.data.toList) (Classical.not_not.1 h27)
          rw [← h1, ← h2]
          exact h4
    ·
      refine WL.nil (WX.then_normal (WC.cond_false rfl (WC.exit (WX.then_exit (WX.then_exit (WX.block_here (WX.then_normal (?_))))))))
      refine WC.seq (WC.region (WL.assign rfl rfl (WL.nil (WX.then_normal (WC.ret (?_))))))
      refine WX.ret1 (.inl rfl) Try.results20 rfl ?_
      first
        | (refine ⟨_, rfl, congrArg Value.bool (decide_eq_false (fun h => ?_)).symm, hw⟩
           have h1 : (xss us)[i]? = (xss vs)[i]? := by rw [h]
           rw [xss, xss, List.getElem?_map, List.getElem?_map, hx, hy] at h1
           injection h1 with h1
           exact h27 (by rw [h1]))
        | (refine ⟨_, rfl, congrArg Value.bool (decide_eq_false (fun h => ?_)).symm, hw⟩
           have h1 := congrArg List.length h
           rw [xss, xss, List.length_map, List.length_map] at h1
           omega)
        | (refine ⟨_, rfl, congrArg Value.bool (decide_eq_true ?_).symm, hw⟩
           apply List.ext_getElem?
           intro j
           rw [xss, xss, List.getElem?_map, List.getElem?_map]
           rcases Nat.lt_or_ge j us.length with hj | hj
           ·
             obtain ⟨x, hx⟩ : ∃ x, us[j]? = some x := ⟨_, List.getElem?_eq_getElem hj⟩
             obtain ⟨y, hy⟩ : ∃ y, vs[j]? = some y := ⟨_, List.getElem?_eq_getElem (by omega)⟩
             rw [hx, hy, Option.map_some, Option.map_some, hall j x y (by omega) hx hy]
           ·
             rw [List.getElem?_eq_none (by omega), List.getElem?_eq_none (by omega)])
theorem small_calls {S : Nat → Prop} {w : World} {ao : Option Addr} {c : Nat} {rs : List Rw} (hc : RS S w ao c rs) (hl : rs.length * 24 ≤ 140737488351232 ∧ ∀ r ∈ rs, r.xs.length ≤ 140737488351232) :
    Calls Try.prog 17 [.slice ao rs.length c].toArray w (Ret fun v w' => (∃ b : Bool, v = .bool b) ∧ Chg Nob w w') := by
  replace hc := hc.old
  have hw := Chg.refl Nob w
  have hl1 := hl.1
  refine Calls.of_WC Try.func17 rfl Try.ntmps17 (by simp) ?_
  refine WC.seq (WC.region (WL.assign rfl rfl (WL.nil (WX.then_normal (WC.seq (WC.region (WL.assign rfl rfl (?_))))))))
  refine WL.nil (WX.then_normal (WC.seq (WC.seq (WC.region (WL.assign rfl rfl (WL.nil (WX.then_normal (?_))))))))
  refine WC.block (?_)
  refine WC.loop (σ := Nat × Nat) (fun q => [(0, .slice ao rs.length c), (3, vi q.2), (4, vi q.1)])
    (fun q w' => q.1 ≤ rs.length ∧ q.2 ≤ 140737488353300 ∧ RS (· < w.heap.size) w' ao c rs ∧ Chg Nob w w') (fun q => rs.length - q.1) (0, 0) ⟨rfl, rfl, rfl, trivial⟩ ⟨Nat.zero_le _, by decide, hc, hw⟩ ?_
  clear hc hw
  rintro ⟨i, n⟩ w2 ⟨hi, hn, hc, hw⟩
  dsimp only at hi hn hc hw ⊢
  refine WC.seq (WC.seq (WC.region (WL.move rfl rfl (WL.move rfl rfl (WL.len Try.underlying22 rfl rfl (?_))))))
  refine WL.lss? rfl rfl rfl (fun h8 => ?_) (fun h8 => ?_)
  ·
    refine WL.move rfl rfl (WL.want rfl rfl rfl (WL.move rfl rfl (WL.want rfl rfl rfl (?_))))
    refine WL.leq? rfl rfl rfl (fun h11 => ?_) (fun h11 => ?_)
    ·
      refine WL.pickT rfl rfl rfl (WL.nil (WX.then_normal (WC.cond_true rfl (WC.skip (WX.then_normal (WC.seq (WC.block (?_))))))))
      refine WC.region (WL.move rfl rfl (WL.move rfl rfl (WL.move rfl rfl (?_))))
      obtain ⟨r, hr⟩ : ∃ r, rs[i]? = some r := ⟨_, List.getElem?_eq_getElem (by omega)⟩
      have hrl := hl.2 r (List.mem_of_getElem? hr)
      refine WL.indexT Try.underlying22 Try.sizeOf23 hc.outer rfl rfl ⟨hr, rfl⟩ rfl ?_
      intro b_1 o_1 hc_1
      refine WL.load Try.isAgg23 rfl (hc_1 0 _ rfl) rfl (WL.len Try.underlying23 rfl rfl (WL.add64 rfl rfl (by first | omega | (constructor <;> omega)) rfl (WL.assign rfl rfl (WL.nil (WX.block_normal (WX.then_normal (WC.region (?_))))))))
      refine WL.move rfl rfl (WL.add64 rfl rfl (by first | omega | (constructor <;> omega)) rfl (WL.assign rfl rfl (WL.nil (?_))))
      refine WX.loop_next (i + 1, n + r.xs.length) ⟨rfl, rfl, rfl, trivial⟩ ⟨by dsimp only; omega, by dsimp only; omega, hc, hw⟩ (by show _ - _ < _ - _; omega)
    ·
      refine WL.pickT rfl rfl rfl (WL.nil (WX.then_normal (WC.cond_false rfl (WC.exit (WX.then_exit (WX.then_exit (WX.block_here (?_))))))))
      refine WX.then_normal (WC.seq (WC.region (WL.move rfl rfl (WL.leq rfl rfl rfl (WL.assign rfl rfl (WL.nil (WX.then_normal (?_))))))))
      refine WC.ret (?_)
      refine WX.ret1 (.inl rfl) Try.results17 rfl ?_
      exact ⟨_, rfl, ⟨_, rfl⟩, hw⟩
  ·
    refine WL.move rfl rfl (WL.pass rfl rfl rfl rfl (WL.pass rfl rfl rfl rfl (WL.pickF rfl rfl rfl (WL.nil (WX.then_normal (WC.cond_false rfl (WC.exit (?_))))))))
    refine WX.then_exit (WX.then_exit (WX.block_here (WX.then_normal (WC.seq (WC.region (WL.move rfl rfl (WL.leq rfl rfl rfl (?_))))))))
    refine WL.assign rfl rfl (WL.nil (WX.then_normal (WC.ret (?_))))
    refine WX.ret1 (.inl rfl) Try.results17 rfl ?_
    exact ⟨_, rfl, ⟨_, rfl⟩, hw⟩
set_option maxRecDepth 100000 in
theorem three_small : lenC [[1], [1]] = ((1 : Nat) : Int) ∧ three [[1], [1]] 1 2 = [[0], [3], [5]] := by decide +kernel
set_option maxHeartbeats 1000000 in
theorem known3_calls (w : World) : Calls Try.prog 16 [].toArray w (Ret fun v w' => v = .bool true ∧ Chg Nob w w') := by
  have hw := Chg.refl Nob w
  refine Calls.of_WC Try.func16 rfl Try.ntmps16 (by simp) ?_
  refine WC.seq (WC.region (WL.assign rfl rfl (WL.nil (WX.then_normal (WC.seq (WC.region (?_)))))))
  refine WL.build (e := eb) [1] Try.underlying23 Try.sizeOf5 Try.zeroValue5 rfl rfl rfl (by first | (simp [Value.cells]; done) | (simp [Value.cells] <;> rfl) | (simp [Value.cells, eb, ei, es, ebool, e32, e64]; done)) (by decide) rfl ?_
  intro a_h1 w_h1 h1 l_h1 z_h1 k_h1
  have zs_k_h1 := k_h1.size
  replace hw := hw.pure k_h1
  refine WL.build (e := eb) [1] Try.underlying23 Try.sizeOf5 Try.zeroValue5 rfl rfl rfl (by first | (simp [Value.cells]; done) | (simp [Value.cells] <;> rfl) | (simp [Value.cells, eb, ei, es, ebool, e32, e64]; done)) (by decide) rfl ?_
  intro a_h2 w_h2 h2 l_h2 z_h2 k_h2
  have zs_k_h2 := k_h2.size
  replace hw := hw.pure k_h2
  replace h1 := h1.pure k_h2
  refine WL.build (e := erow) [⟨a_h1, 1, [1]⟩, ⟨a_h2, 1, [1]⟩] Try.underlying22 Try.sizeOf23 Try.zeroValue23 rfl rfl rfl (by first | (simp [Value.cells]; done) | (simp [Value.cells] <;> rfl) | (simp [Value.cells, eb, ei, es, ebool, e32, e64]; done)) (by decide) rfl ?_
  intro a_h3 w_h3 h3 l_h3 z_h3 k_h3
  have zs_k_h3 := k_h3.size
  replace hw := hw.pure k_h3
  replace h1 := h1.pure k_h3
  replace h2 := h2.pure k_h3
  have hc : RS (fun _ => True) w_h3 a_h3 2 [⟨a_h1, 1, [1]⟩, ⟨a_h2, 1, [1]⟩] := by
    refine ⟨h3.rsl.mono (fun _ _ => trivial), fun r hr => ?_⟩
    simp only [List.mem_cons, List.not_mem_nil, or_false] at hr
    rcases hr with rfl | rfl
    ·
      exact h1.rsl.mono (fun _ _ => trivial)
    ·
      exact h2.rsl.mono (fun _ _ => trivial)
  refine WL.call eg_21 rfl rfl (make_rs hc (by show 2 ≤ 13; decide) three_small.1) ?_
  rintro v w1 ⟨⟨ao, c, ps, rfl, hp, hps⟩, k⟩
  have zs_k := k.size
  replace hw := hw.pure k
  replace hp := hp.old
  replace hps : xss ps = [[0], [3], [5]] := hps.trans three_small.2
  refine WL.move rfl rfl (WL.extract rfl rfl rfl (WL.extract rfl rfl rfl (WL.assign rfl rfl (WL.assign rfl rfl (WL.nil (WX.then_normal (WC.seq (?_))))))))
  refine WC.region (WL.move rfl rfl (?_))
  refine WL.eql rfl rfl rfl ?_
  rw [show decide ((0 : Int) = 0) = true from rfl]
  refine WL.move rfl rfl (WL.want rfl rfl rfl (WL.move rfl rfl (WL.want rfl rfl rfl (?_))))
  refine WL.build (e := eb) [0] Try.underlying23 Try.sizeOf5 Try.zeroValue5 rfl rfl rfl (by first | (simp [Value.cells]; done) | (simp [Value.cells] <;> rfl) | (simp [Value.cells, eb, ei, es, ebool, e32, e64]; done)) (by decide) rfl ?_
  intro a_h4 w_h4 h4 l_h4 z_h4 k_h4
  have zs_k_h4 := k_h4.size
  replace hw := hw.pure k_h4
  replace hp := hp.pure k_h4
  refine WL.want rfl rfl rfl (?_)
  refine WL.build (e := eb) [3] Try.underlying23 Try.sizeOf5 Try.zeroValue5 rfl rfl rfl (by first | (simp [Value.cells]; done) | (simp [Value.cells] <;> rfl) | (simp [Value.cells, eb, ei, es, ebool, e32, e64]; done)) (by decide) rfl ?_
  intro a_h5 w_h5 h5 l_h5 z_h5 k_h5
  have zs_k_h5 := k_h5.size
  replace hw := hw.pure k_h5
  replace hp := hp.pure k_h5
  replace h4 := h4.pure k_h5
  refine WL.want rfl rfl rfl (?_)
  refine WL.build (e := eb) [5] Try.underlying23 Try.sizeOf5 Try.zeroValue5 rfl rfl rfl (by first | (simp [Value.cells]; done) | (simp [Value.cells] <;> rfl) | (simp [Value.cells, eb, ei, es, ebool, e32, e64]; done)) (by decide) rfl ?_
  intro a_h6 w_h6 h6 l_h6 z_h6 k_h6
  have zs_k_h6 := k_h6.size
  replace hw := hw.pure k_h6
  replace hp := hp.pure k_h6
  replace h4 := h4.pure k_h6
  replace h5 := h5.pure k_h6
  refine WL.want rfl rfl rfl (?_)
  refine WL.build (e := erow) [⟨a_h4, 1, [0]⟩, ⟨a_h5, 1, [3]⟩, ⟨a_h6, 1, [5]⟩] Try.underlying22 Try.sizeOf23 Try.zeroValue23 rfl rfl rfl (by first | (simp [Value.cells]; done) | (simp [Value.cells] <;> rfl) | (simp [Value.cells, eb, ei, es, ebool, e32, e64]; done)) (by decide) rfl ?_
  intro a_h7 w_h7 h7 l_h7 z_h7 k_h7
  have zs_k_h7 := k_h7.size
  replace hw := hw.pure k_h7
  replace hp := hp.pure k_h7
  replace h4 := h4.pure k_h7
  replace h5 := h5.pure k_h7
  replace h6 := h6.pure k_h7
  refine WL.want rfl rfl rfl (?_)
  have hd : RS (fun _ => True) w_h7 a_h7 3 [⟨a_h4, 1, [0]⟩, ⟨a_h5, 1, [3]⟩, ⟨a_h6, 1, [5]⟩] := by
    refine ⟨h7.rsl.mono (fun _ _ => trivial), fun r hr => ?_⟩
    simp only [List.mem_cons, List.not_mem_nil, or_false] at hr
    rcases hr with rfl | rfl | rfl
    ·
      exact h4.rsl.mono (fun _ _ => trivial)
    ·
      exact h5.rsl.mono (fun _ _ => trivial)
    ·
      exact h6.rsl.mono (fun _ _ => trivial)
  have hp3 : ps.length = 3 := by have := congrArg List.length hps; rw [xss, List.length_map] at this; exact this
  refine WL.call eg_20 rfl rfl (same_calls hp hd (by omega)) ?_
  rintro v w1 ⟨rfl, k⟩
  rw [hps, show decide (([[0], [3], [5]] : List (List UInt8)) = xss [⟨a_h4, 1, [0]⟩, ⟨a_h5, 1, [3]⟩, ⟨a_h6, 1, [5]⟩]) = true from decide_eq_true rfl]
  have zs_k := k.size
  replace hw := hw.pure k
  replace hp := hp.pure k
  refine WL.pickT rfl rfl rfl (WL.assign rfl rfl (WL.nil (WX.then_normal (WC.ret (?_)))))
  refine WX.ret1 (.inl rfl) Try.results16 rfl ?_
  exact ⟨_, rfl, rfl, hw⟩
end Go.Proofs.Ytjdbjdgobhjbkaa
namespace Go.HL
open Go.RowKit
/-- rows of bytes that are gathered, one behind the other -/
structure CR (N n1 : Nat) (w : World) (T : TypeId) (ao : Option Addr) (c : Nat) (rs : List Rw) : Prop where
  outer : Row (fun x => N ≤ x ∧ x < n1) w T erow ao c rs
  inner : ∀ r ∈ rs, RSl (fun x => (N ≤ x ∧ x < n1) ∧ ¬ Eqb ao x) w eb r.ao r.cap r.xs
section
variable {N n1 : Nat} {w w' : World} {T : TypeId} {ao : Option Addr} {c : Nat} {rs : List Rw} {M : Nat → Prop}
theorem CR.nil (N n1 : Nat) (w : World) (T : TypeId) : CR N n1 w T none 0 [] := ⟨Row.nil _ _ _ _, fun r hr => by cases hr⟩
theorem CR.chg (h : CR N n1 w T ao c rs) (k : Chg M w w') (hd : ∀ x, N ≤ x ∧ x < n1 → M x → False) : CR N n1 w' T ao c rs :=
  ⟨h.outer.chg k (fun b _ hs hm => hd b hs hm), fun r hr => (h.inner r hr).chg k (fun b _ hs hm => hd b hs.1 hm)⟩
theorem CR.pure (h : CR N n1 w T ao c rs) (k : Chg Nob w w') : CR N n1 w' T ao c rs := h.chg k (fun _ _ x => x)
theorem CR.lift (h : CR N n1 w T ao c rs) {n2 : Nat} (hn : n1 ≤ n2) : CR N n2 w T ao c rs :=
  ⟨h.outer.mono (fun b hb => ⟨hb.1, by omega⟩), fun r hr => (h.inner r hr).mono (fun b hb => ⟨⟨hb.1.1, by omega⟩, hb.2⟩)⟩
/-- one more, which was made after all others -/
theorem CR.snoc (h : CR N n1 w T ao c rs) {r : Rw} (hr : RSl (fun x => n1 ≤ x ∧ x < w.heap.size) w eb r.ao r.cap r.xs) (hN : N ≤ n1) (hs : n1 ≤ w.heap.size) {ao2 : Option Addr} {c2 : Nat} (ho : Row (fun x => N ≤ x) w' T erow ao2 c2 (rs ++ [r])) (g : Grow (fun x => N ≤ x) w ao w' ao2) :
    CR N w'.heap.size w' T ao2 c2 (rs ++ [r]) := by
  have zs := g.chg.size
  have ho2 : Row (fun x => N ≤ x ∧ x < w'.heap.size) w' T erow ao2 c2 (rs ++ [r]) := ho.lt
  have hat : ∀ x, Eqb ao x → x < n1 := fun x e => (h.outer.at_.eqb e).2
  have hnew : ∀ x, x < w.heap.size → Eqb ao2 x → Eqb ao x := by
    intro x hx e
    rcases g.fr with e1 | e1
    · rw [← e1]; exact e
    · have := e1.eqb e
      omega
  refine ⟨ho2, fun q hq => ?_⟩
  rcases List.mem_append.1 hq with h1 | h1
  · refine (((h.inner q h1).lt).chg g.chg (fun b _ hb hm => hb.1.2 hm.1)).mono (fun b hb => ⟨⟨hb.1.1.1, by omega⟩, fun e => hb.1.2 (hnew b hb.2 e)⟩)
  · simp at h1
    subst h1
    refine (hr.chg g.chg (fun b _ hb hm => by have := hat b hm.1; omega)).mono (fun b hb => ⟨⟨by omega, by omega⟩, fun e => by have := hat b (hnew b hb.2 e); omega⟩)
theorem CR.read (h : CR N n1 w T ao c rs) : RS (fun _ => True) w ao c rs := ⟨h.outer.rsl.mono (fun _ _ => trivial), fun r hr => (h.inner r hr).mono (fun _ _ => trivial)⟩
end
/-! sums of columns -/
def xorL (a b : List UInt8) : List UInt8 := List.zipWith (fun x y => x ^^^ y) a b
theorem xorL_len {a b : List UInt8} (h : b.length = a.length) : (xorL a b).length = a.length := by rw [xorL, List.length_zipWith, h, Nat.min_self]
theorem xorL_at {a b : List UInt8} {k : Nat} {x y : UInt8} (hx : a[k]? = some x) (hy : b[k]? = some y) : (xorL a b)[k]? = some (x ^^^ y) := by rw [xorL, List.getElem?_zipWith, hx, hy]
def xorTo (a b : List UInt8) (k : Nat) : List UInt8 := (xorL a b).take k ++ a.drop k
theorem xorTo_len {a b : List UInt8} {k : Nat} (h : b.length = a.length) (hk : k ≤ a.length) : (xorTo a b k).length = a.length := by
  rw [xorTo, List.length_append, List.length_take, List.length_drop, xorL_len h]
  omega
theorem xorTo_at {a b : List UInt8} {k : Nat} (h : b.length = a.length) (hk : k < a.length) : ∃ x y, a[k]? = some x ∧ b[k]? = some y ∧ (xorTo a b k)[k]? = some x ∧ (xorTo a b k).set k (x ^^^ y) = xorTo a b (k + 1) := by
  have hp : a[k]? = some a[k] := List.getElem?_eq_getElem hk
  have hc : b[k]? = some b[k] := List.getElem?_eq_getElem (by omega)
  refine ⟨a[k], b[k], hp, hc, ?_, ?_⟩
  · rw [xorTo, List.getElem?_append_right (by rw [List.length_take]; omega), List.length_take, xorL_len h, Nat.min_eq_left (by omega), Nat.sub_self, List.getElem?_drop, Nat.add_zero, hp]
  · have hl : ((xorL a b).take k).length = k := by rw [List.length_take, xorL_len h]; omega
    rw [xorTo, xorTo, List.set_append_right _ _ (by omega), hl, Nat.sub_self, List.drop_eq_getElem_cons hk, List.set_cons_zero, List.take_add_one, xorL_at hp hc]
    simp
theorem xorTo_end {a b : List UInt8} (h : b.length = a.length) : xorTo a b a.length = xorL a b := by
  rw [xorTo, List.take_of_length_le (by rw [xorL_len h]; exact Nat.le_refl _), List.drop_length, List.append_nil]
/-- a parity's byte -/
def px (wt : Nat → UInt8) (cols : List (List UInt8)) (k : Nat) : Nat → UInt8
  | 0 => 0
  | i + 1 => px wt cols k i ^^^ mul (wt i) ((cols.getD i []).getD k 0)
theorem prow_at {wt : Nat → UInt8} {cols : List (List UInt8)} {n : Nat} (h : ∀ d ∈ cols, d.length = n) {k : Nat} (hk : k < n) : ∀ {i : Nat}, i ≤ cols.length → (prow wt cols n i)[k]? = some (px wt cols k i) := by
  intro i
  induction i with
  | zero => intro _; rw [prow, List.getElem?_replicate, if_pos hk]; rfl
  | succ i ih =>
    intro hi
    have h2 : (cols.getD i []).length = n := by
      rw [List.getD_eq_getElem?_getD, List.getElem?_eq_getElem (by omega)]
      exact h _ (List.getElem_mem _)
    have h3 : (cols.getD i [])[k]? = some ((cols.getD i []).getD k 0) := by
      rw [List.getD_eq_getElem?_getD (l := cols.getD i []), List.getElem?_eq_getElem (by omega)]
      rfl
    rw [prow, addRow_at (ih (by omega)) h3]
    rfl
theorem px_sum {wt : Nat → UInt8} {a b c : List (List UInt8)} {k m : Nat} (h : ∀ i, i < m → (c.getD i []).getD k 0 = (a.getD i []).getD k 0 ^^^ (b.getD i []).getD k 0) : ∀ {i : Nat}, i ≤ m → px wt c k i = px wt a k i ^^^ px wt b k i := by
  intro i
  induction i with
  | zero => intro _; show (0 : UInt8) = 0 ^^^ 0; decide
  | succ i ih =>
    intro hi
    rw [px, px, px, ih (by omega), h i (by omega), mul_xor, xor4]
end Go.HL
namespace Go.Proofs.Ytjdbjdgobhjbkaa
open Go.RowKit Go.HL

theorem eql_self3 (a : Int) : decide (a = a) = true := decide_eq_true rfl
theorem neq_self3 (a : Int) : decide (a ≠ a) = false := decide_eq_false (fun h => h rfl)
def okM (rs : List Rw) : Prop := rs.length ≤ 13 ∧ 0 ≤ lenC (xss rs)
def bounded (rs : List Rw) : Prop := rs.length * 24 ≤ 140737488351232 ∧ ∀ r ∈ rs, r.xs.length ≤ 140737488351232
/-- Make, whatever comes of it -/
theorem make_any {S : Nat → Prop} {w : World} {ac : Option Addr} {cc : Nat} {rs : List Rw} (hc : RS S w ac cc rs) (hl : bounded rs) :
    Calls Try.prog 21 [.slice ac rs.length cc].toArray w (Ret fun v w' => (∃ (ao : Option Addr) (n c : Nat) (e : Int), v = .tuple #[.slice ao n c, vi e]) ∧ Chg Nob w w') := by
  by_cases h : okM rs
  · obtain ⟨n, hn, _⟩ := lenC_some h.2
    refine (make_good hc h.1 hn).mono ?_
    rintro e w' ⟨v, rfl, ⟨go, gs, rfl, _⟩, hw⟩
    exact ⟨_, rfl, ⟨_, _, _, _, rfl⟩, hw⟩
  · refine (make_bad hc hl.1 h).mono ?_
    rintro e w' ⟨v, rfl, rfl, hw⟩
    exact ⟨_, rfl, ⟨_, _, _, _, rfl⟩, hw⟩
end Go.Proofs.Ytjdbjdgobhjbkaa
namespace Go.Proofs.Ytjdbjdgobhjbkaa
open Go.ChangeShapes Go.WideShapes Go.ChangeAt Go.RowKit Go.Deep Go.HL
set_option maxRecDepth 10000
/-! an argument that is columns, numbers and bytes -/
structure ThV where
  ac : Option Addr
  cc : Nat
  rs : List Rw
  ab : Option Addr
  cb : Nat
  bad : List Int
  aj : Option Addr
  cj : Nat
  jk : List UInt8
def thval (x : ThV) : Value := .agg #[.slice x.ac x.rs.length x.cc, .slice x.ab x.bad.length x.cb, .slice x.aj x.jk.length x.cj]
structure ThS (w : World) (x : ThV) : Prop where
  rows : RS (· < w.heap.size) w x.ac x.cc x.rs
  bad : RSl (· < w.heap.size) w ei x.ab x.cb x.bad
  jk : RSl (· < w.heap.size) w eb x.aj x.cj x.jk
section
variable {H : Type} {enc : TypeId × Value → H} {W : World}
structure ThOf (W : World) (x : ThV) (d : DataW H) : Prop where
  datum : ∃ d0 d1 d2, d = .agg [d0, d1, d2] ∧ (d0 = .nil ∧ x.rs = [] ∨ ∃ el sp, d0 = .slice el sp ∧ x.rs.length = el.length ∧ ∀ (i : Nat) (r : Rw), x.rs[i]? = some r → ∃ d, el[i]? = some d ∧ RowOf W r d)
theorem open_three {base : Nat} {v : Value} {d : DataW H} {p : List MemPlace} (hv : Value.okWide Try.prog W .any base 41 v) (h : DataW.Trod enc Try.prog W 0 (fun _ => true) true 41 v d p) :
    ∃ x : ThV, v = thval x ∧ ThS W x ∧ ThOf W x d := by
  unfold Value.okWide at hv
  rw [Try.underlying41] at hv
  obtain ⟨ca, rfl, hsz, _⟩ := hv
  obtain ⟨n, hn⟩ := h
  have hl : ca.toList.length = 3 := by rw [Array.length_toList, hsz]; kernel_rfl
  have hn2 : DataW.trod enc Try.prog W 0 (fun _ => true) true n 41 ca.toList = some (d, p) := hn
  obtain ⟨cs, hcs⟩ : ∃ cs, cs = ca.toList := ⟨_, rfl⟩
  have hca : ca = cs.toArray := by rw [hcs]
  rw [← hcs] at hn2 hl
  rw [hca]
  clear hca hcs hsz hn
  obtain ⟨xs, m, _, he, _, hx, hf⟩ := DataW.trod_struct Try.underlying41 hn2
  match cs, hl with
  | [c0, c1, c2], _ =>
    match xs, hx with
    | [y0, y1, y2], _ =>
      have f0 : DataW.trod enc Try.prog W 0 (fun _ => true) true m 22 (([c0, c1, c2].drop 0).take (Try.prog.cellsOf 22)) = some y0 := hf 0 _ rfl
      have f1 : DataW.trod enc Try.prog W 0 (fun _ => true) true m 33 (([c0, c1, c2].drop 1).take (Try.prog.cellsOf 33)) = some y1 := hf 1 _ rfl
      have f2 : DataW.trod enc Try.prog W 0 (fun _ => true) true m 23 (([c0, c1, c2].drop 2).take (Try.prog.cellsOf 23)) = some y2 := hf 2 _ rfl
      rw [show Try.prog.cellsOf 22 = 1 from by kernel_rfl] at f0
      rw [show Try.prog.cellsOf 33 = 1 from by kernel_rfl] at f1
      rw [show Try.prog.cellsOf 23 = 1 from by kernel_rfl] at f2
      obtain ⟨ac, cc, rs, e0, h0, h3⟩ := open_trod Try.underlying22 erow (RowOf W) (by kernel_rfl) (el_row Try.underlying23 Try.underlying5 (by kernel_rfl)) f0
      obtain ⟨ab, cb, bad, e1, h1, _⟩ := open_trod Try.underlying33 ei (fun _ _ => True) (by kernel_rfl) (fun n cs y a b c => by
        obtain ⟨x, hx1, hx2⟩ := el_i64 Try.underlying3 n cs y a b c
        exact ⟨x, hx1, trivial⟩) f1
      obtain ⟨aj, cj, jk, e2, h2, _⟩ := open_trod Try.underlying23 eb (fun _ _ => True) (by kernel_rfl) (fun n cs y a b c => by
        obtain ⟨x, hx1, hx2⟩ := el_u8 Try.underlying5 n cs y a b c
        exact ⟨x, hx1, trivial⟩) f2
      injection e0 with e0
      injection e1 with e1
      injection e2 with e2
      subst e0; subst e1; subst e2
      refine ⟨⟨ac, cc, rs, ab, cb, bad, aj, cj, jk⟩, rfl, ⟨⟨h0, fun r hr => ?_⟩, h1, h2⟩, ⟨y0.1, y1.1, y2.1, congrArg Prod.fst he, h3⟩⟩
      rcases h3 with ⟨_, h4⟩ | ⟨el, sp, _, _, h4⟩
      · rw [show rs = [] from h4] at hr
        cases hr
      · obtain ⟨i, hil, rfl⟩ := List.getElem_of_mem hr
        obtain ⟨d, _, h5⟩ := h4 i _ (List.getElem?_eq_getElem hil)
        exact h5.1
theorem reach_three {d : DataW H} {x : ThV} {ts : List TypeId} {ds : List (DataW H)} {j : Nat} (hsz : (DataW.weightsEach Try.prog ts ds).all (· ≤ reachBytes) = true) (htj : ts[j]? = some 41) (hdj : ds[j]? = some d) (h : ThOf W x d) : bounded x.rs := by
  obtain ⟨d0, d1, d2, rfl, h3⟩ := h.datum
  have hin : (DataW.weightsEach Try.prog [22, 33, 23] [d0, d1, d2]).all (· ≤ reachBytes) = true := by
    refine List.all_eq_true.2 fun y hy => ?_
    refine List.all_eq_true.1 hsz _ (DataW.weights_mem_each htj hdj y ?_)
    simp only [DataW.weights, Try.underlying41]
    exact hy
  exact reach_rows hin (j := 0) (t := 22) rfl rfl Try.underlying22 Try.underlying23 (by kernel_rfl) (by kernel_rfl) h3
end
end Go.Proofs.Ytjdbjdgobhjbkaa
namespace Go.Proofs.Ytjdbjdgobhjbkaa
open Go.RowKit Go.HL

theorem xss_at' {rs : List Rw} {i : Nat} {r : Rw} (h : rs[i]? = some r) : (xss rs)[i]? = some r.xs := by rw [xss, List.getElem?_map, h]; rfl
theorem addRow_zeros {acc : List UInt8} {n : Nat} {m : UInt8} (h : acc.length = n) : addRow acc (List.replicate n 0) m = acc := by
  apply List.ext_getElem?
  intro k
  rcases Nat.lt_or_ge k n with hk | hk
  · have h1 : acc[k]? = some acc[k] := List.getElem?_eq_getElem (by omega)
    have h2 : (List.replicate n (0 : UInt8))[k]? = some 0 := by rw [List.getElem?_replicate, if_pos hk]
    rw [addRow_at h1 h2, h1, mul_zero_r, UInt8.xor_zero]
  · rw [List.getElem?_eq_none (by rw [addRow_len (by rw [List.length_replicate, h])]; omega), List.getElem?_eq_none (by omega)]
/-- a column of noughts may be left out -/
theorem three_skip {cols : List (List UInt8)} {n i : Nat} (hz : cols.getD i [] = List.replicate n 0) (h : ∀ d ∈ cols, d.length = n) (hi : i ≤ cols.length) : three cols n (i + 1) = three cols n i := by
  have hq : ∀ q, prow (wtq q) cols n (i + 1) = prow (wtq q) cols n i := by
    intro q
    rw [prow, hz]
    exact addRow_zeros (prow_len h hi)
  simp only [three, hq]
set_option maxHeartbeats 4000000 in
theorem sums_calls2 {w : World} {gf n : Nat} {ac ab : Option Addr} {cc cb : Nat} {rs : List Rw} {W : List Int} (hF : Fld w gf) (hc : RS (fun b => b < gf) w ac cc rs) (hW : RSl (fun b => b < gf) w ei ab cb W) (hWl : W.length ≤ 140737488351232) (hz : ∀ (i : Nat) (x : List UInt8), (xss rs)[i]? = some x → (i : Int) ∈ W → x = List.replicate n 0) (hn : n ≤ 4096) (hl : rs.length ≤ 13) (hall : ∀ d ∈ xss rs, d.length = n) :
    Calls Try.prog 42 [.pointer (some ⟨gf, 0, none⟩), .slice ac rs.length cc, vi n, .slice ab W.length cb].toArray w (Ret fun v w' => (∃ (go : Nat) (gs : List Nat), v = .slice (some ⟨go, 0, none⟩) 3 3 ∧ OR w' 23 5 go 3 gs n (three (xss rs) n rs.length) [] ∧ gs.length = 3 ∧ w.heap.size ≤ go ∧ Fld w' gf) ∧ Chg (fun x => gf ≤ x) w w') := by
  have hw := Chg.refl (fun x => x = gf) w
  have lgf := hF.lt
  refine Calls.of_WC Try.func42 rfl Try.ntmps42 (by simp) ?_
  refine WC.seq (WC.region (WL.assign rfl rfl (WL.nil (WX.then_normal (WC.seq (WC.region (?_)))))))
  refine WL.make (e := erow) nilRw 3 3 Try.underlying22 info_23 rfl rfl rfl ⟨rfl, rfl, by decide⟩ (by decide) rfl ?_
  intro go wq hq kq zq ego
  rw [show (List.replicate 3 nilRw).length = 3 from rfl]
  have zs_kq := kq.size
  replace hF := hF.pure kq
  replace hc := hc.pure kq
  replace hW := hW.pure kq
  replace hw := hw.pure kq
  refine WL.assign rfl rfl (WL.nil (WX.then_normal (WC.seq (WC.seq (WC.region (WL.move rfl rfl (WL.len Try.underlying22 rfl rfl (?_))))))))
  refine WL.move rfl rfl (WL.nil (WX.then_normal (WC.block (?_))))
  have lgo : gf < go := by omega
  have hq0 : Row (fun b => b = go) wq 23 erow (some ⟨go, 0, none⟩) 3 (List.replicate 3 nilRw) := ⟨fun a ea => by injection ea with ea; subst ea; rfl, hq.own⟩
  have hO0 : OR wq 23 5 go 3 [] n [] (List.replicate 3 nilRw) := ⟨hq0, fun i g x h => by simp at h, rfl, fun i j g h => by simp at h, fun i g h => by simp at h⟩
  have hwg : w.heap.size ≤ go := by omega
  refine WC.loop (σ := List Nat) (fun gs => [(0, .pointer (some ⟨gf, 0, none⟩)), (1, .slice ac rs.length cc), (2, vi n), (3, .slice ab W.length cb), (9, .slice (some ⟨go, 0, none⟩) 3 3), (15, vi 3), (16, vi gs.length)])
    (fun gs w' => gs.length ≤ 3 ∧ OR w' 23 5 go 3 gs n (List.replicate gs.length (List.replicate n 0)) (List.replicate (3 - gs.length) nilRw) ∧ Fld w' gf ∧ RS (fun b => b < gf) w' ac cc rs ∧ RSl (fun b => b < gf) w' ei ab cb W ∧ Chg (fun x => x = gf) w w') (fun gs => 3 - gs.length) [] ⟨rfl, rfl, rfl, rfl, rfl, rfl, rfl, trivial⟩ ⟨by decide, hO0, hF, hc, hW, hw⟩ ?_
  clear hF hc hW hw hq hq0 hO0
  rintro gs w8 ⟨hg3, hO, hF, hc, hW, hw⟩
  refine WC.seq (WC.region (?_))
  refine WL.lss? rfl rfl rfl (fun h17 => ?_) (fun h17 => ?_)
  ·
    refine WL.nil (WX.then_normal (WC.seq (WC.cond_true rfl (WC.skip (WX.then_normal (WC.seq (WC.block (?_))))))))
    refine WC.seq (WC.region (WL.move rfl rfl (WL.assign rfl rfl (WL.nil (WX.then_normal (WC.region (WL.move rfl rfl (?_))))))))
    refine WL.move rfl rfl (WL.move rfl rfl (?_))
    have lgs : ∀ (j g : Nat), gs[j]? = some g → g < w8.heap.size := fun j g h => hO.lt h
    have lgo8 := hO.lto
    refine WL.make (e := eb) (0 : UInt8) n n Try.underlying23 info_5 rfl rfl rfl ⟨rfl, rfl, Nat.le_refl _⟩ (by constructor <;> omega) rfl ?_
    intro g w9 hg9 k9 z9 eg
    rw [List.length_replicate]
    replace hO := hO.pure k9
    have hgr : Row (fun b => b = g) w9 5 eb (some ⟨g, 0, none⟩) n (List.replicate n 0) := ⟨fun a ea => by injection ea with ea; subst ea; rfl, hg9.own⟩
    obtain ⟨tl, htl⟩ : ∃ tl, List.replicate (3 - gs.length) nilRw = nilRw :: tl ∧ tl = List.replicate (3 - (gs.length + 1)) nilRw := ⟨_, by rw [show 3 - gs.length = (3 - (gs.length + 1)) + 1 from by omega, List.replicate_succ], rfl⟩
    rw [htl.1] at hO
    have hol : (orows gs n (List.replicate gs.length (List.replicate n 0)) ++ nilRw :: tl).length = 3 := by
      rw [List.length_append, orows_len (by rw [List.length_replicate]), htl.2, List.length_cons, List.length_replicate]
      omega
    have zs_k9 := k9.size
    replace hF := hF.pure k9
    replace hc := hc.pure k9
    replace hW := hW.pure k9
    replace hw := hw.pure k9
    refine WL.index (sz := 1) Try.underlying22 Try.sizeOf23 rfl rfl rfl (by omega) rfl ?_
    refine WL.storeRow (z := ⟨some ⟨g, 0, none⟩, n, List.replicate n 0⟩) gs.length Try.sizeOf23 hO.outer rfl (by show [Value.slice (some ⟨g, 0, none⟩) (List.replicate n 0).length n] = _; rw [List.length_replicate]) rfl (by show 0 + _ * 1 = _; omega) (by omega) rfl ?_
    intro w4 zs4 ho4 k4
    have zs_k4 := k4.size
    replace hF := hF.chg k4 (by first | (intro x h1 h2; exact h2) | (intro x h0 h1 h2; exact hS x h1 h2) | (intro x h0 h1 h2; have h3 : _ = _ := h2; subst h3; exact hSR h1.1) | (intro x h1 h2; have h3 : _ = _ := h2; subst h3; assumption) | (intro x h1 h2; have h3 : _ = _ := h2; exfalso; omega) | (intro b h1 h2 h3; have h4 : _ = _ := h3; (try dsimp only at h2); exfalso; omega) | (intro h1; have h2 : _ = _ := h1; exfalso; omega) | (intro h1; have h2 : _ ≤ _ := h1; exfalso; omega) | (intros; exfalso; (try dsimp only at *); omega) | (intro b h1 h2 h3; exfalso; have h4 := h3.2; (try dsimp only at *); omega) | (intro h1; exfalso; have h4 := h1.2; (try dsimp only at *); omega) | (intro x h1 h2; exfalso; have h4 := h2.2; (try dsimp only at *); omega) | (intro x h1 h2; exact ⟨_, rfl, h2⟩) | (intro x h1 h2; have h4 := h2.1; have h5 := h2.2; exfalso; omega) | (intro x h1 h2; exact h2.1) | (intro x h1 h2; rcases h2.1 with h3 | h3; exact h3; exfalso; omega) | (intro x h1 h2; rcases h2 with h3 | h3; exact h3; exfalso; omega))
    replace hc := hc.chg k4 (by first | (intro x h1 h2; exact h2) | (intro x h0 h1 h2; exact hS x h1 h2) | (intro x h0 h1 h2; have h3 : _ = _ := h2; subst h3; exact hSR h1.1) | (intro x h1 h2; have h3 : _ = _ := h2; subst h3; assumption) | (intro x h1 h2; have h3 : _ = _ := h2; exfalso; omega) | (intro b h1 h2 h3; have h4 : _ = _ := h3; (try dsimp only at h2); exfalso; omega) | (intro h1; have h2 : _ = _ := h1; exfalso; omega) | (intro h1; have h2 : _ ≤ _ := h1; exfalso; omega) | (intros; exfalso; (try dsimp only at *); omega) | (intro b h1 h2 h3; exfalso; have h4 := h3.2; (try dsimp only at *); omega) | (intro h1; exfalso; have h4 := h1.2; (try dsimp only at *); omega) | (intro x h1 h2; exfalso; have h4 := h2.2; (try dsimp only at *); omega) | (intro x h1 h2; exact ⟨_, rfl, h2⟩) | (intro x h1 h2; have h4 := h2.1; have h5 := h2.2; exfalso; omega) | (intro x h1 h2; exact h2.1) | (intro x h1 h2; rcases h2.1 with h3 | h3; exact h3; exfalso; omega) | (intro x h1 h2; rcases h2 with h3 | h3; exact h3; exfalso; omega))
    replace hW := hW.chg k4 (by first | (intro x h1 h2; exact h2) | (intro x h0 h1 h2; exact hS x h1 h2) | (intro x h0 h1 h2; have h3 : _ = _ := h2; subst h3; exact hSR h1.1) | (intro x h1 h2; have h3 : _ = _ := h2; subst h3; assumption) | (intro x h1 h2; have h3 : _ = _ := h2; exfalso; omega) | (intro b h1 h2 h3; have h4 : _ = _ := h3; (try dsimp only at h2); exfalso; omega) | (intro h1; have h2 : _ = _ := h1; exfalso; omega) | (intro h1; have h2 : _ ≤ _ := h1; exfalso; omega) | (intros; exfalso; (try dsimp only at *); omega) | (intro b h1 h2 h3; exfalso; have h4 := h3.2; (try dsimp only at *); omega) | (intro h1; exfalso; have h4 := h1.2; (try dsimp only at *); omega) | (intro x h1 h2; exfalso; have h4 := h2.2; (try dsimp only at *); omega) | (intro x h1 h2; exact ⟨_, rfl, h2⟩) | (intro x h1 h2; have h4 := h2.1; have h5 := h2.2; exfalso; omega) | (intro x h1 h2; exact h2.1) | (intro x h1 h2; rcases h2.1 with h3 | h3; exact h3; exfalso; omega) | (intro x h1 h2; rcases h2 with h3 | h3; exact h3; exfalso; omega))
    replace hw := hw.chg k4 (by first | (intro x h1 h2; exact h2) | (intro x h0 h1 h2; exact hS x h1 h2) | (intro x h0 h1 h2; have h3 : _ = _ := h2; subst h3; exact hSR h1.1) | (intro x h1 h2; have h3 : _ = _ := h2; subst h3; assumption) | (intro x h1 h2; have h3 : _ = _ := h2; exfalso; omega) | (intro b h1 h2 h3; have h4 : _ = _ := h3; (try dsimp only at h2); exfalso; omega) | (intro h1; have h2 : _ = _ := h1; exfalso; omega) | (intro h1; have h2 : _ ≤ _ := h1; exfalso; omega) | (intros; exfalso; (try dsimp only at *); omega) | (intro b h1 h2 h3; exfalso; have h4 := h3.2; (try dsimp only at *); omega) | (intro h1; exfalso; have h4 := h1.2; (try dsimp only at *); omega) | (intro x h1 h2; exfalso; have h4 := h2.2; (try dsimp only at *); omega) | (intro x h1 h2; exact ⟨_, rfl, h2⟩) | (intro x h1 h2; have h4 := h2.1; have h5 := h2.2; exfalso; omega) | (intro x h1 h2; exact h2.1) | (intro x h1 h2; rcases h2.1 with h3 | h3; exact h3; exfalso; omega) | (intro x h1 h2; rcases h2 with h3 | h3; exact h3; exfalso; omega))
    have hO2 := hO.snoc (g := g) (x := List.replicate n 0) (by omega) (fun i g' h => by have := lgs i g' h; omega) k4 (fun i g' h e => by have h2 : g' = go := e; have := hO.above i g' h; omega) ho4 (hgr.chg k4 (fun b h1 h2 h3 => by have h4 : b = go := h3; have h5 : b = g := h2; omega))
    refine WL.nil (WX.block_normal (WX.then_normal (WC.region (WL.add64 rfl rfl (by first | omega | (constructor <;> omega)) rfl (WL.move rfl rfl (WL.nil (?_)))))))
    first
      | (refine WX.loop_next (gs ++ [g]) ⟨rfl, rfl, rfl, rfl, rfl, rfl, ?_, trivial⟩ ⟨by rw [List.length_append]; show gs.length + 1 ≤ 3; omega, ?_, hF, hc, hW, hw⟩ (by rw [List.length_append]; show 3 - (gs.length + 1) < 3 - gs.length; omega)
         ·
           rw [List.length_append]
           rfl
         ·
           rw [List.length_append, show gs.length + [g].length = gs.length + 1 from rfl, ← htl.2, List.replicate_succ']
           exact hO2)
      | (have hz1 := hz i r.xs (xss_at' hr) hiW
         have hO2 := hO
         rw [← three_skip (hget.trans hz1) hall (by rw [xss, List.length_map]; omega)] at hO2
         exact WX.loop_next (i + 1) ⟨rfl, rfl, rfl, rfl, rfl, rfl, trivial⟩ ⟨by omega, hF, hO2, hc, hW, hk⟩ (by show _ - _ < _ - _; omega))
      | exact WX.loop_next (i + 1) ⟨rfl, rfl, rfl, rfl, rfl, rfl, trivial⟩ ⟨by omega, hF, hO, hc, hW, hk⟩ (by show _ - _ < _ - _; omega)
  ·
    refine WL.nil (WX.then_normal (WC.seq (WC.cond_false rfl (WC.exit (WX.then_exit (WX.then_exit (WX.block_here (?_))))))))
    refine WX.then_normal (WC.seq (WC.seq (WC.region (WL.move rfl rfl (WL.len Try.underlying22 rfl rfl (WL.move rfl rfl (WL.nil (?_))))))))
    refine WX.then_normal (WC.block (?_))
    have hgs3 : gs.length = 3 := by omega
    rw [hgs3] at hO
    have hO1 : OR w8 23 5 go 3 gs n (three (xss rs) n 0) [] := hO
    refine WC.loop (σ := Nat) (fun i => [(0, .pointer (some ⟨gf, 0, none⟩)), (3, .slice ab W.length cb), (9, .slice (some ⟨go, 0, none⟩) 3 3), (25, .slice ac rs.length cc), (26, vi rs.length), (27, vi i)])
      (fun i w' => i ≤ rs.length ∧ Fld w' gf ∧ OR w' 23 5 go 3 gs n (three (xss rs) n i) [] ∧ RS (fun b => b < gf) w' ac cc rs ∧ RSl (fun b => b < gf) w' ei ab cb W ∧ Chg (fun x => gf ≤ x) w8 w') (fun i => rs.length - i) 0 ⟨rfl, rfl, rfl, rfl, rfl, rfl, trivial⟩ ⟨Nat.zero_le _, hF, hO1, hc, hW, Chg.refl _ _⟩ ?_
    clear hO hO1 hF hc hW
    rintro i w7 ⟨hi, hF, hO, hc, hW, hk⟩
    refine WC.seq (WC.region (?_))
    refine WL.lss? rfl rfl rfl (fun h28 => ?_) (fun h28 => ?_)
    ·
      refine WL.nil (WX.then_normal (WC.seq (WC.cond_true rfl (WC.skip (WX.then_normal (WC.seq (WC.block (?_))))))))
      refine WC.seq (WC.region (WL.move rfl rfl (?_)))
      obtain ⟨r, hr⟩ : ∃ r, rs[i]? = some r := ⟨_, List.getElem?_eq_getElem (by omega)⟩
      have hrl := hall _ (xss_mem hr)
      have hcr := hc.at hr
      have hget : (xss rs).getD i [] = r.xs := by rw [List.getD_eq_getElem?_getD, xss, List.getElem?_map, hr]; rfl
      refine WL.indexT Try.underlying22 Try.sizeOf23 hc.outer rfl rfl ⟨hr, rfl⟩ rfl ?_
      intro b_1 o_1 hc_1
      refine WL.load Try.isAgg23 rfl (hc_1 0 _ rfl) rfl (WL.assign rfl rfl (WL.assign rfl rfl (WL.nil (WX.then_normal (WC.seq (WC.region (WL.move rfl rfl (?_))))))))
      refine WL.move rfl rfl (?_)
      refine WL.call eg_39 rfl rfl (contains_calls hW hWl _) ?_
      rintro v w3 ⟨rfl, k⟩
      have zs_k := k.size
      replace hF := hF.pure k
      replace hO := hO.pure k
      replace hc := hc.pure k
      replace hW := hW.pure k
      replace hk := hk.pure k
      replace hcr := hcr.pure k
      by_cases hiW : (i : Int) ∈ W
      ·
        rw [decide_eq_true hiW]
        refine WL.not rfl rfl (WL.nil (WX.then_normal (WC.cond_false rfl (WC.skip (WX.block_normal (WX.then_normal (WC.region (?_))))))))
        refine WL.add64 rfl rfl (by first | omega | (constructor <;> omega)) rfl (WL.move rfl rfl (WL.nil (?_)))
        first
          | (refine WX.loop_next (gs ++ [g]) ⟨rfl, rfl, rfl, rfl, rfl, rfl, ?_, trivial⟩ ⟨by rw [List.length_append]; show gs.length + 1 ≤ 3; omega, ?_, hF, hc, hW, hw⟩ (by rw [List.length_append]; show 3 - (gs.length + 1) < 3 - gs.length; omega)
             ·
               rw [List.length_append]
               rfl
             ·
               rw [List.length_append, show gs.length + [g].length = gs.length + 1 from rfl, ← htl.2, List.replicate_succ']
               exact hO2)
          | (have hz1 := hz i r.xs (xss_at' hr) hiW
             have hO2 := hO
             rw [← three_skip (hget.trans hz1) hall (by rw [xss, List.length_map]; omega)] at hO2
             exact WX.loop_next (i + 1) ⟨rfl, rfl, rfl, rfl, rfl, rfl, trivial⟩ ⟨by omega, hF, hO2, hc, hW, hk⟩ (by show _ - _ < _ - _; omega))
          | exact WX.loop_next (i + 1) ⟨rfl, rfl, rfl, rfl, rfl, rfl, trivial⟩ ⟨by omega, hF, hO, hc, hW, hk⟩ (by show _ - _ < _ - _; omega)
      ·
        rw [decide_eq_false hiW]
        refine WL.not rfl rfl (WL.nil (WX.then_normal (WC.cond_true rfl (WC.region (WL.move rfl rfl (WL.move rfl rfl (WL.move rfl rfl (?_))))))))
        refine WL.move rfl rfl (?_)
        have hl3 : ∀ y ∈ three (xss rs) n i, y.length = n := by
          have hp : ∀ q, (prow (wtq q) (xss rs) n i).length = n := fun q => prow_len hall (by rw [xss, List.length_map]; omega)
          intro y hy
          simp only [three, List.mem_cons, List.not_mem_nil, or_false] at hy
          rcases hy with rfl | rfl | rfl <;> exact hp _
        refine WL.call eg_51 rfl rfl (add_calls hF hO hgs3 hl3 hcr hrl lgo i hn) ?_
        rintro v w4 ⟨rfl, hR, hO2, k⟩
        rw [← hget, three_next] at hO2
        have zs_k := k.size
        replace hc := hc.chg k (by first | (intro x h1 h2; exact h2) | (intro x h0 h1 h2; exact hS x h1 h2) | (intro x h0 h1 h2; have h3 : _ = _ := h2; subst h3; exact hSR h1.1) | (intro x h1 h2; have h3 : _ = _ := h2; subst h3; assumption) | (intro x h1 h2; have h3 : _ = _ := h2; exfalso; omega) | (intro b h1 h2 h3; have h4 : _ = _ := h3; (try dsimp only at h2); exfalso; omega) | (intro h1; have h2 : _ = _ := h1; exfalso; omega) | (intro h1; have h2 : _ ≤ _ := h1; exfalso; omega) | (intros; exfalso; (try dsimp only at *); omega) | (intro b h1 h2 h3; exfalso; have h4 := h3.2; (try dsimp only at *); omega) | (intro h1; exfalso; have h4 := h1.2; (try dsimp only at *); omega) | (intro x h1 h2; exfalso; have h4 := h2.2; (try dsimp only at *); omega) | (intro x h1 h2; exact ⟨_, rfl, h2⟩) | (intro x h1 h2; have h4 := h2.1; have h5 := h2.2; exfalso; omega) | (intro x h1 h2; exact h2.1) | (intro x h1 h2; rcases h2.1 with h3 | h3; exact h3; exfalso; omega) | (intro x h1 h2; rcases h2 with h3 | h3; exact h3; exfalso; omega))
        replace hW := hW.chg k (by first | (intro x h1 h2; exact h2) | (intro x h0 h1 h2; exact hS x h1 h2) | (intro x h0 h1 h2; have h3 : _ = _ := h2; subst h3; exact hSR h1.1) | (intro x h1 h2; have h3 : _ = _ := h2; subst h3; assumption) | (intro x h1 h2; have h3 : _ = _ := h2; exfalso; omega) | (intro b h1 h2 h3; have h4 : _ = _ := h3; (try dsimp only at h2); exfalso; omega) | (intro h1; have h2 : _ = _ := h1; exfalso; omega) | (intro h1; have h2 : _ ≤ _ := h1; exfalso; omega) | (intros; exfalso; (try dsimp only at *); omega) | (intro b h1 h2 h3; exfalso; have h4 := h3.2; (try dsimp only at *); omega) | (intro h1; exfalso; have h4 := h1.2; (try dsimp only at *); omega) | (intro x h1 h2; exfalso; have h4 := h2.2; (try dsimp only at *); omega) | (intro x h1 h2; exact ⟨_, rfl, h2⟩) | (intro x h1 h2; have h4 := h2.1; have h5 := h2.2; exfalso; omega) | (intro x h1 h2; exact h2.1) | (intro x h1 h2; rcases h2.1 with h3 | h3; exact h3; exfalso; omega) | (intro x h1 h2; rcases h2 with h3 | h3; exact h3; exfalso; omega))
        replace hk := hk.chg k (fun x _ h => h)
        replace hF : Fld w4 gf := .inr hR
        replace hO := hO2
        refine WL.nil (WX.block_normal (WX.then_normal (WC.region (WL.add64 rfl rfl (by first | omega | (constructor <;> omega)) rfl (WL.move rfl rfl (WL.nil (?_)))))))
        first
          | (refine WX.loop_next (gs ++ [g]) ⟨rfl, rfl, rfl, rfl, rfl, rfl, ?_, trivial⟩ ⟨by rw [List.length_append]; show gs.length + 1 ≤ 3; omega, ?_, hF, hc, hW, hw⟩ (by rw [List.length_append]; show 3 - (gs.length + 1) < 3 - gs.length; omega)
             ·
               rw [List.length_append]
               rfl
             ·
               rw [List.length_append, show gs.length + [g].length = gs.length + 1 from rfl, ← htl.2, List.replicate_succ']
               exact hO2)
          | (have hz1 := hz i r.xs (xss_at' hr) hiW
             have hO2 := hO
             rw [← three_skip (hget.trans hz1) hall (by rw [xss, List.length_map]; omega)] at hO2
             exact WX.loop_next (i + 1) ⟨rfl, rfl, rfl, rfl, rfl, rfl, trivial⟩ ⟨by omega, hF, hO2, hc, hW, hk⟩ (by show _ - _ < _ - _; omega))
          | exact WX.loop_next (i + 1) ⟨rfl, rfl, rfl, rfl, rfl, rfl, trivial⟩ ⟨by omega, hF, hO, hc, hW, hk⟩ (by show _ - _ < _ - _; omega)
    ·
      refine WL.nil (WX.then_normal (WC.seq (WC.cond_false rfl (WC.exit (WX.then_exit (WX.then_exit (WX.block_here (?_))))))))
      refine WX.then_normal (WC.seq (WC.region (WL.move rfl rfl (WL.assign rfl rfl (WL.nil (WX.then_normal (WC.ret (?_))))))))
      refine WX.ret1 (.inl rfl) Try.results42 rfl ?_
      have hil : i = rs.length := by omega
      subst hil
      refine ⟨_, rfl, ⟨go, gs, rfl, hO, hgs3, hwg, hF⟩, ?_⟩
      exact (hw.mono (M' := fun x => gf ≤ x) (fun x _ h => by have h2 : x = gf := h; omega)).chg hk (fun x h1 h2 => h2)
end Go.Proofs.Ytjdbjdgobhjbkaa
namespace Go.HL
open Go.RowKit
/-! the document's products, bit by bit -/
def bit (b : UInt8) (k : Nat) : UInt8 := (b >>> UInt8.ofNat k) &&& 1
/-- the first i bits from the top -/
def bAt (b : UInt8) : Nat → UInt8
  | 0 => 0
  | i + 1 => xt (bAt b i) ^^^ bit b (7 - i)
set_option maxRecDepth 100000 in
theorem bAt_all : ∀ n : Fin 256, bAt (UInt8.ofNat n.1) 8 = UInt8.ofNat n.1 := by decide +kernel
theorem bAt_end (b : UInt8) : bAt b 8 = b := fin_all (p := fun b => bAt b 8 = b) bAt_all b
theorem xt_nat (q : UInt8) : (256 ≤ q.toNat * 2 → (q.toNat * 2) ^^^ 285 = (xt q).toNat) ∧ (q.toNat * 2 < 256 → q.toNat * 2 = (xt q).toNat) :=
  fin_all (p := fun q => (256 ≤ q.toNat * 2 → (q.toNat * 2) ^^^ 285 = (xt q).toNat) ∧ (q.toNat * 2 < 256 → q.toNat * 2 = (xt q).toNat)) (by decide +kernel) q
theorem mul_xt2 (a x : UInt8) : mul a (xt x) = xt (mul a x) := by
  by_cases ha : a = 0
  · subst ha; rw [mul_zero_l, mul_zero_l]; rfl
  · rw [mul_xt ha, mul_xt ha]
    generalize L a = k
    induction k with
    | zero => rfl
    | succ k ih => rw [xtN, ih]; rfl
theorem bit_one {b : UInt8} {k : Nat} (h : ((bit b k).toNat : Int) = 1) : bit b k = 1 := UInt8.toNat_inj.1 (by have h0 : (1 : UInt8).toNat = 1 := rfl; omega)
theorem bit_all : ∀ n : Fin 256, ((UInt8.ofNat n.1) &&& 1) = 0 ∨ ((UInt8.ofNat n.1) &&& 1) = 1 := by decide +kernel
theorem bit_zero {b : UInt8} {k : Nat} (h : ¬ ((bit b k).toNat : Int) = 1) : bit b k = 0 := by
  rcases fin_all (p := fun x => x &&& 1 = 0 ∨ x &&& 1 = 1) bit_all (b >>> UInt8.ofNat k) with h1 | h1
  · exact h1
  · exact absurd (show ((bit b k).toNat : Int) = 1 by rw [show bit b k = 1 from h1]; rfl) h
theorem step_one {a b : UInt8} {i : Nat} (h : ((bit b (7 - i)).toNat : Int) = 1) : (xt (mul a (bAt b i))).toNat ^^^ a.toNat = (mul a (bAt b (i + 1))).toNat := by
  rw [bAt, bit_one h, mul_xor, mul_one, mul_xt2, UInt8.toNat_xor]
theorem step_zero {a b : UInt8} {i : Nat} (h : ¬ ((bit b (7 - i)).toNat : Int) = 1) : (xt (mul a (bAt b i))).toNat = (mul a (bAt b (i + 1))).toNat := by
  rw [bAt, bit_zero h, mul_xor, mul_zero_r, mul_xt2, UInt8.xor_zero]
theorem inv_only {a x : UInt8} (h : mul a x = 1) : a ≠ 0 ∧ x = inv a := by
  have ha : a ≠ 0 := by
    rintro rfl
    rw [mul_zero_l] at h
    exact absurd h (by decide)
  refine ⟨ha, ?_⟩
  have h1 := mul_assoc (inv a) a x
  rw [h, mul_one, mul_comm (inv a) a, mul_inv ha, mul_comm 1 x, mul_one] at h1
  exact h1.symm
def pAt (a : UInt8) : Nat → UInt8
  | 0 => 1
  | i + 1 => mul (pAt a i) a
theorem pAt_ne {a : UInt8} (ha : a ≠ 0) (i : Nat) : pAt a i = G (L a * i) := by
  induction i with
  | zero => rw [Nat.mul_zero, G_zero]; rfl
  | succ i ih => rw [pAt, ih, mul_G (G_ne _) ha, L_G, ← G_mod, Nat.mod_add_mod, G_mod, Nat.mul_succ]
theorem pAt_zero (i : Nat) : pAt 0 (i + 1) = 0 := by rw [pAt, mul_zero_r]
end Go.HL
namespace Go.Proofs.Ytjdbjdgobhjbkaa
open Go.RowKit Go.HL

theorem powR_pos {a : UInt8} (ha : a ≠ 0) (m : Nat) : powR a (m : Int) = (G (L a * m), 0) := by
  rw [powR, if_neg (by omega)]
  by_cases hm : (m : Int) = 0
  · rw [if_pos hm, show m = 0 from by omega, Nat.mul_zero, G_zero]
  · rw [if_neg hm, if_neg ha, Int.toNat_natCast, G, Nat.mul_mod, Nat.mul_mod (L a) m, Nat.mod_mod]
theorem powR_zero (m : Nat) : powR 0 (m : Int) = (if m = 0 then 1 else 0, 0) := by
  rw [powR, if_neg (by omega)]
  by_cases hm : m = 0
  · rw [if_pos (by omega), if_pos hm]
  · rw [if_neg (by omega), if_pos rfl, if_neg hm]
set_option maxHeartbeats 1000000 in
theorem refMul_calls (a b : UInt8) (w : World) : Calls Try.prog 27 [v8 a, v8 b].toArray w (Ret fun v w' => v = v8 (mul a b) ∧ Chg Nob w w') := by
  have hw := Chg.refl Nob w
  refine Calls.of_WC Try.func27 rfl Try.ntmps27 (by simp) ?_
  refine WC.seq (WC.region (WL.assign rfl rfl (WL.nil (WX.then_normal (WC.seq (WC.region (WL.assign rfl rfl (?_))))))))
  refine WL.nil (WX.then_normal (WC.seq (WC.seq (WC.region (WL.assign rfl rfl (WL.nil (WX.then_normal (?_))))))))
  refine WC.block (?_)
  refine WC.loop (σ := Nat) (fun i => [(0, v8 a), (1, v8 b), (5, vi ((mul a (bAt b i)).toNat : Nat)), (6, vi (7 - (i : Int)))])
    (fun i w' => i ≤ 8 ∧ Chg Nob w w') (fun i => 8 - i) 0 ⟨rfl, rfl, by rw [show bAt b 0 = 0 from rfl, mul_zero_r]; rfl, rfl, trivial⟩ ⟨Nat.zero_le _, hw⟩ ?_
  clear hw
  rintro i w2 ⟨hi, hw⟩
  obtain ⟨q, hq⟩ : ∃ q, q = mul a (bAt b i) := ⟨_, rfl⟩
  have hql := q.toNat_lt
  have hal := a.toNat_lt
  have hxl := (xt q).toNat_lt
  have hxn := xt_nat q
  rw [← hq]
  refine WC.seq (WC.seq (WC.region (WL.move rfl rfl (?_))))
  refine WL.geq? rfl rfl rfl (fun h8 => ?_) (fun h8 => ?_)
  ·
    refine WL.nil (WX.then_normal (WC.cond_true rfl (WC.skip (WX.then_normal (WC.seq (WC.block (WC.seq (?_))))))))
    refine WC.region (WL.move rfl rfl (?_))
    refine WL.mul64 rfl rfl (by constructor <;> omega) rfl ?_
    rw [show (q.toNat : Int) * 2 = ((q.toNat * 2 : Nat) : Int) from by omega]
    refine WL.assign rfl rfl (WL.nil (WX.then_normal (WC.seq (WC.seq (WC.region (WL.move rfl rfl (?_)))))))
    refine WL.geq? rfl rfl rfl (fun h14 => ?_) (fun h14 => ?_)
    ·
      have e2 := hxn.1 (by omega)
      refine WL.nil (WX.then_normal (WC.cond_true rfl (WC.region (WL.move rfl rfl (?_)))))
      refine WL.num rfl rfl (n_xori _ _ (q.toNat * 2) 285 (by omega) (by decide)) rfl ?_
      rw [e2]
      refine WL.assign rfl rfl (WL.nil (WX.then_normal (WC.seq (WC.region (WL.move rfl rfl (?_))))))
      refine WL.move rfl rfl ?_
      rw [show (7 - (i : Int)) = ((7 - i : Nat) : Int) from by omega]
      refine WL.num rfl rfl (n_shr8 _ _ b .i64 (7 - i) (by omega)) rfl ?_
      refine WL.num rfl rfl (n_and8 _ _ _ 1) rfl ?_
      rw [show (b >>> UInt8.ofNat (7 - i)) &&& 1 = bit b (7 - i) from rfl]
      refine WL.eql? rfl rfl rfl (fun h21 => ?_) (fun h21 => ?_)
      ·
        refine WL.nil (WX.then_normal (WC.cond_true rfl (WC.region (WL.move rfl rfl (WL.move rfl rfl (WL.c_u8_i64 Try.underlying5 Try.underlying3 rfl rfl (?_)))))))
        refine WL.num rfl rfl (n_xori _ _ (xt q).toNat a.toNat (by omega) (by omega)) rfl ?_
        refine WL.assign rfl rfl (WL.nil (WX.block_normal (WX.then_normal (WC.region (WL.move rfl rfl (WL.sub64 rfl rfl (by first | omega | (constructor <;> omega)) rfl (WL.assign rfl rfl (?_))))))))
        refine WL.nil (?_)
        have e6 : 7 - ((i + 1 : Nat) : Int) = ((7 - i : Nat) : Int) - 1 := by omega
        first
          | (have e5 := step_one (a := a) (b := b) (i := i) h21
             rw [← hq] at e5
             refine WX.loop_next (i + 1) ⟨rfl, rfl, ?_, ?_, trivial⟩ ⟨by omega, hw⟩ (by show _ - _ < _ - _; omega)
             ·
               rw [← e5]; rfl
             ·
               rw [e6]; rfl)
          | (have e5 := step_zero (a := a) (b := b) (i := i) h21
             rw [← hq] at e5
             refine WX.loop_next (i + 1) ⟨rfl, rfl, ?_, ?_, trivial⟩ ⟨by omega, hw⟩ (by show _ - _ < _ - _; omega)
             ·
               rw [← e5]; rfl
             ·
               rw [e6]; rfl)
      ·
        refine WL.nil (WX.then_normal (WC.cond_false rfl (WC.skip (WX.block_normal (WX.then_normal (WC.region (WL.move rfl rfl (?_))))))))
        refine WL.sub64 rfl rfl (by first | omega | (constructor <;> omega)) rfl (WL.assign rfl rfl (WL.nil (?_)))
        have e6 : 7 - ((i + 1 : Nat) : Int) = ((7 - i : Nat) : Int) - 1 := by omega
        first
          | (have e5 := step_one (a := a) (b := b) (i := i) h21
             rw [← hq] at e5
             refine WX.loop_next (i + 1) ⟨rfl, rfl, ?_, ?_, trivial⟩ ⟨by omega, hw⟩ (by show _ - _ < _ - _; omega)
             ·
               rw [← e5]; rfl
             ·
               rw [e6]; rfl)
          | (have e5 := step_zero (a := a) (b := b) (i := i) h21
             rw [← hq] at e5
             refine WX.loop_next (i + 1) ⟨rfl, rfl, ?_, ?_, trivial⟩ ⟨by omega, hw⟩ (by show _ - _ < _ - _; omega)
             ·
               rw [← e5]; rfl
             ·
               rw [e6]; rfl)
    ·
      have e2 := hxn.2 (by omega)
      rw [e2]
      refine WL.nil (WX.then_normal (WC.cond_false rfl (WC.skip (WX.then_normal (WC.seq (WC.region (WL.move rfl rfl (?_))))))))
      refine WL.move rfl rfl ?_
      rw [show (7 - (i : Int)) = ((7 - i : Nat) : Int) from by omega]
      refine WL.num rfl rfl (n_shr8 _ _ b .i64 (7 - i) (by omega)) rfl ?_
      refine WL.num rfl rfl (n_and8 _ _ _ 1) rfl ?_
      rw [show (b >>> UInt8.ofNat (7 - i)) &&& 1 = bit b (7 - i) from rfl]
      refine WL.eql? rfl rfl rfl (fun h21 => ?_) (fun h21 => ?_)
      ·
        refine WL.nil (WX.then_normal (WC.cond_true rfl (WC.region (WL.move rfl rfl (WL.move rfl rfl (WL.c_u8_i64 Try.underlying5 Try.underlying3 rfl rfl (?_)))))))
        refine WL.num rfl rfl (n_xori _ _ (xt q).toNat a.toNat (by omega) (by omega)) rfl ?_
        refine WL.assign rfl rfl (WL.nil (WX.block_normal (WX.then_normal (WC.region (WL.move rfl rfl (WL.sub64 rfl rfl (by first | omega | (constructor <;> omega)) rfl (WL.assign rfl rfl (?_))))))))
        refine WL.nil (?_)
        have e6 : 7 - ((i + 1 : Nat) : Int) = ((7 - i : Nat) : Int) - 1 := by omega
        first
          | (have e5 := step_one (a := a) (b := b) (i := i) h21
             rw [← hq] at e5
             refine WX.loop_next (i + 1) ⟨rfl, rfl, ?_, ?_, trivial⟩ ⟨by omega, hw⟩ (by show _ - _ < _ - _; omega)
             ·
               rw [← e5]; rfl
             ·
               rw [e6]; rfl)
          | (have e5 := step_zero (a := a) (b := b) (i := i) h21
             rw [← hq] at e5
             refine WX.loop_next (i + 1) ⟨rfl, rfl, ?_, ?_, trivial⟩ ⟨by omega, hw⟩ (by show _ - _ < _ - _; omega)
             ·
               rw [← e5]; rfl
             ·
               rw [e6]; rfl)
      ·
        refine WL.nil (WX.then_normal (WC.cond_false rfl (WC.skip (WX.block_normal (WX.then_normal (WC.region (WL.move rfl rfl (?_))))))))
        refine WL.sub64 rfl rfl (by first | omega | (constructor <;> omega)) rfl (WL.assign rfl rfl (WL.nil (?_)))
        have e6 : 7 - ((i + 1 : Nat) : Int) = ((7 - i : Nat) : Int) - 1 := by omega
        first
          | (have e5 := step_one (a := a) (b := b) (i := i) h21
             rw [← hq] at e5
             refine WX.loop_next (i + 1) ⟨rfl, rfl, ?_, ?_, trivial⟩ ⟨by omega, hw⟩ (by show _ - _ < _ - _; omega)
             ·
               rw [← e5]; rfl
             ·
               rw [e6]; rfl)
          | (have e5 := step_zero (a := a) (b := b) (i := i) h21
             rw [← hq] at e5
             refine WX.loop_next (i + 1) ⟨rfl, rfl, ?_, ?_, trivial⟩ ⟨by omega, hw⟩ (by show _ - _ < _ - _; omega)
             ·
               rw [← e5]; rfl
             ·
               rw [e6]; rfl)
  ·
    refine WL.nil (WX.then_normal (WC.cond_false rfl (WC.exit (WX.then_exit (WX.then_exit (WX.block_here (WX.then_normal (?_))))))))
    refine WC.seq (WC.region (WL.move rfl rfl (?_)))
    have h8 : i = 8 := by omega
    refine WL.c_i64_u8 Try.underlying3 Try.underlying5 rfl rfl ?_
    rw [b8X (show q.toNat < 256 by omega), UInt8.ofNat_toNat, hq, h8, bAt_end]
    refine WL.assign rfl rfl (WL.nil (WX.then_normal (WC.ret (?_))))
    refine WX.ret1 (.inl rfl) Try.results27 rfl ?_
    exact ⟨_, rfl, rfl, hw⟩
theorem refPow_calls (a : UInt8) (n : Int) (w : World) (hn : -9223372036854775808 ≤ n ∧ n ≤ 9223372036854775807) : Calls Try.prog 48 [v8 a, vi n].toArray w (Ret fun v w' => v = .tuple #[v8 (powR a n).1, vi (powR a n).2] ∧ Chg Nob w w') := by
  have hw := Chg.refl Nob w
  refine Calls.of_WC Try.func48 rfl Try.ntmps48 (by simp) ?_
  refine WC.seq (WC.region (WL.assign rfl rfl (WL.assign rfl rfl (WL.nil (WX.then_normal (WC.seq (WC.seq (?_))))))))
  refine WC.region (WL.move rfl rfl (?_))
  refine WL.lss? rfl rfl rfl (fun h9 => ?_) (fun h9 => ?_)
  ·
    refine WL.nil (WX.then_normal (WC.cond_true rfl (WC.seq (WC.region (WL.assign rfl rfl (WL.assign rfl rfl (WL.nil (?_))))))))
    refine WX.then_normal (WC.ret (WX.then_ret (?_)))
    refine WX.ret2 (.inl rfl) Try.results48 rfl rfl ?_
    first
      | (have hi2 : i = m % 255 + 1 := by omega
         subst hi2
         refine ⟨_, rfl, ?_, hw⟩
         by_cases ha : a = 0
         ·
           subst ha
           rw [powR_zero, if_neg (by omega), pAt_zero]
         ·
           rw [powR_pos ha, pAt_ne ha, ← G_mod, ← G_mod (L a * (m + 1)), Nat.mul_mod, Nat.mul_mod (L a) (m + 1), Nat.mod_add_mod])
      | (refine ⟨_, rfl, ?_, hw⟩
         rw [powR, if_pos h9]
         rfl)
      | (refine ⟨_, rfl, ?_, hw⟩
         rw [powR, if_neg (by omega), if_pos h11]
         rfl)
  ·
    refine WL.nil (WX.then_normal (WC.cond_false rfl (WC.skip (WX.then_normal (WC.seq (WC.seq (WC.region (?_))))))))
    refine WL.move rfl rfl (?_)
    refine WL.eql? rfl rfl rfl (fun h11 => ?_) (fun h11 => ?_)
    ·
      refine WL.nil (WX.then_normal (WC.cond_true rfl (WC.seq (WC.region (WL.assign rfl rfl (WL.assign rfl rfl (WL.nil (?_))))))))
      refine WX.then_normal (WC.ret (WX.then_ret (?_)))
      refine WX.ret2 (.inl rfl) Try.results48 rfl rfl ?_
      first
        | (have hi2 : i = m % 255 + 1 := by omega
           subst hi2
           refine ⟨_, rfl, ?_, hw⟩
           by_cases ha : a = 0
           ·
             subst ha
             rw [powR_zero, if_neg (by omega), pAt_zero]
           ·
             rw [powR_pos ha, pAt_ne ha, ← G_mod, ← G_mod (L a * (m + 1)), Nat.mul_mod, Nat.mul_mod (L a) (m + 1), Nat.mod_add_mod])
        | (refine ⟨_, rfl, ?_, hw⟩
           rw [powR, if_pos h9]
           rfl)
        | (refine ⟨_, rfl, ?_, hw⟩
           rw [powR, if_neg (by omega), if_pos h11]
           rfl)
    ·
      refine WL.nil (WX.then_normal (WC.cond_false rfl (WC.skip (WX.then_normal (WC.seq (WC.region (WL.assign rfl rfl (?_))))))))
      refine WL.nil (WX.then_normal (WC.seq (WC.seq (WC.region (WL.assign rfl rfl (WL.nil (WX.then_normal (?_))))))))
      refine WC.block (?_)
      obtain ⟨m, rfl⟩ : ∃ m : Nat, n = ((m + 1 : Nat) : Int) := ⟨n.toNat - 1, by omega⟩
      refine WC.loop (σ := Nat) (fun i => [(0, v8 a), (1, vi ((m + 1 : Nat) : Int)), (6, v8 (pAt a i)), (7, vi i)])
        (fun i w' => i ≤ m % 255 + 1 ∧ Chg Nob w w') (fun i => 256 - i) 0 ⟨rfl, rfl, rfl, rfl, trivial⟩ ⟨Nat.zero_le _, hw⟩ ?_
      clear hw
      rintro i w2 ⟨hi, hw⟩
      have hm := Nat.mod_lt m (show 255 > 0 by decide)
      refine WC.seq (WC.seq (WC.region (WL.move rfl rfl (WL.move rfl rfl (?_)))))
      refine WL.sub64 rfl rfl (by constructor <;> omega) rfl ?_
      rw [show (((m + 1 : Nat) : Int) - 1) = (m : Int) from by omega]
      refine WL.rem64i rfl rfl (by omega) rfl ?_
      rw [show ((m : Int) % 255) = ((m % 255 : Nat) : Int) from by omega]
      refine WL.add64 rfl rfl (by first | omega | (constructor <;> omega)) rfl (?_)
      refine WL.lss? rfl rfl rfl (fun h17 => ?_) (fun h17 => ?_)
      ·
        refine WL.nil (WX.then_normal (WC.cond_true rfl (WC.skip (WX.then_normal (WC.seq (WC.block (WC.region (?_))))))))
        refine WL.move rfl rfl (WL.move rfl rfl (?_))
        refine WL.call eg_27 rfl rfl (refMul_calls (pAt a i) a _) ?_
        rintro v w1 ⟨rfl, k⟩
        have zs_k := k.size
        replace hw := hw.pure k
        refine WL.assign rfl rfl (WL.nil (WX.block_normal (WX.then_normal (WC.region (WL.move rfl rfl (WL.add64 rfl rfl (by first | omega | (constructor <;> omega)) rfl (WL.assign rfl rfl (?_))))))))
        refine WL.nil (?_)
        exact WX.loop_next (i + 1) ⟨rfl, rfl, rfl, rfl, trivial⟩ ⟨by omega, hw⟩ (by show _ - _ < _ - _; omega)
      ·
        refine WL.nil (WX.then_normal (WC.cond_false rfl (WC.exit (WX.then_exit (WX.then_exit (WX.block_here (WX.then_normal (?_))))))))
        refine WC.seq (WC.region (WL.move rfl rfl (WL.assign rfl rfl (WL.assign rfl rfl (WL.nil (WX.then_normal (WC.ret (?_))))))))
        refine WX.ret2 (.inl rfl) Try.results48 rfl rfl ?_
        first
          | (have hi2 : i = m % 255 + 1 := by omega
             subst hi2
             refine ⟨_, rfl, ?_, hw⟩
             by_cases ha : a = 0
             ·
               subst ha
               rw [powR_zero, if_neg (by omega), pAt_zero]
             ·
               rw [powR_pos ha, pAt_ne ha, ← G_mod, ← G_mod (L a * (m + 1)), Nat.mul_mod, Nat.mul_mod (L a) (m + 1), Nat.mod_add_mod])
          | (refine ⟨_, rfl, ?_, hw⟩
             rw [powR, if_pos h9]
             rfl)
          | (refine ⟨_, rfl, ?_, hw⟩
             rw [powR, if_neg (by omega), if_pos h11]
             rfl)
end Go.Proofs.Ytjdbjdgobhjbkaa
namespace Go.Proofs.Ytjdbjdgobhjbkaa
open Go.RowKit Go.HL

theorem three_at {cols : List (List UInt8)} {n m i : Nat} (h : i < 3) : (three cols n m)[i]? = some (prow (wtq i) cols n m) := by
  have h3 : i = 0 ∨ i = 1 ∨ i = 2 := by omega
  rcases h3 with rfl | rfl | rfl <;> rfl
theorem xss_at {rs : List Rw} {i : Nat} {r : Rw} (h : rs[i]? = some r) : (xss rs)[i]? = some r.xs := by rw [xss, List.getElem?_map, h]; rfl
theorem xss_getD {rs : List Rw} {i : Nat} {r : Rw} (h : rs[i]? = some r) : (xss rs).getD i [] = r.xs := by rw [List.getD_eq_getElem?_getD, xss_at h]; rfl
theorem xss_len (rs : List Rw) : (xss rs).length = rs.length := by rw [xss, List.length_map]
/-- a row of the three, and a byte of it -/
theorem three_row {ps : List Rw} {cols : List (List UInt8)} {n m i : Nat} (hps : xss ps = three cols n m) (h : i < 3) (hall : ∀ d ∈ cols, d.length = n) (hm : m ≤ cols.length) :
    ∃ (ao : Option Addr) (c : Nat) (xs : List UInt8), ps[i]? = some ⟨ao, c, xs⟩ ∧ xs.length = n ∧ ∀ k, k < n → xs[k]? = some (px (wtq i) cols k m) := by
  have hl : ps.length = 3 := by rw [← xss_len, hps]; rfl
  obtain ⟨⟨ao, c, xs⟩, hr⟩ : ∃ r, ps[i]? = some r := ⟨_, List.getElem?_eq_getElem (by omega)⟩
  have h1 := xss_at hr
  rw [hps, three_at h] at h1
  injection h1 with h1
  simp only at h1
  exact ⟨ao, c, xs, hr, by rw [← h1]; exact prow_len hall hm, fun k hk => by rw [← h1]; exact prow_at hall hk hm⟩
theorem xorL_getD {a b : List UInt8} (h : b.length = a.length) (k : Nat) : (xorL a b).getD k 0 = a.getD k 0 ^^^ b.getD k 0 := by
  simp only [List.getD_eq_getElem?_getD]
  rcases Nat.lt_or_ge k a.length with h1 | h1
  · have ha : a[k]? = some a[k] := List.getElem?_eq_getElem h1
    have hb : b[k]? = some b[k] := List.getElem?_eq_getElem (by omega)
    rw [xorL_at ha hb, ha, hb]
    rfl
  · rw [List.getElem?_eq_none (by rw [xorL_len h]; omega), List.getElem?_eq_none h1, List.getElem?_eq_none (by omega)]
    decide
end Go.Proofs.Ytjdbjdgobhjbkaa
