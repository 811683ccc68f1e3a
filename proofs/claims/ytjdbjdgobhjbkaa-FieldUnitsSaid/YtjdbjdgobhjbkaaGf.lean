import Derived.Test.YtjdbjdgobhjbkaaGe
namespace Go.Proofs.Ytjdbjdgobhjbkaa
open Go.RowKit Go.HL

def nilRw : Rw := ⟨none, 0, []⟩
set_option maxHeartbeats 4000000 in
theorem sums_calls {w : World} {gf n : Nat} {ac : Option Addr} {cc : Nat} {rs : List Rw} (hF : Fld w gf) (hc : RS (fun b => b < gf) w ac cc rs) (hn : n ≤ 4096) (hl : rs.length ≤ 13) (hall : ∀ d ∈ xss rs, d.length = n) :
    Calls Try.prog 42 [.pointer (some ⟨gf, 0, none⟩), .slice ac rs.length cc, vi n, .slice none 0 0].toArray w (Ret fun v w' => (∃ (go : Nat) (gs : List Nat), v = .slice (some ⟨go, 0, none⟩) 3 3 ∧ OR w' 23 5 go 3 gs n (three (xss rs) n rs.length) [] ∧ gs.length = 3 ∧ w.heap.size ≤ go) ∧ Chg (fun x => gf ≤ x) w w') := by
  have hw := Chg.refl (fun x => x = gf) w
  have lgf := hF.lt
  refine Calls.of_WC Try.func42 rfl Try.ntmps42 (by simp) ?_
  refine WC.seq (WC.region (WL.assign rfl rfl (WL.nil (WX.then_normal (WC.seq (WC.region (?_)))))))
  refine WL.make (e := erow) nilRw 3 3 Try.underlying22 info_23 rfl rfl rfl ⟨rfl, rfl, by decide⟩ (by decide) rfl ?_
  intro go wq hq kq zq ego
  rw [show (List.replicate 3 nilRw).length = 3 from rfl]
  have zs_kq := kq.size
  replace hF := hF.pure kq
  replace hc := hc.pure kq
  replace hw := hw.pure kq
  refine WL.assign rfl rfl (WL.nil (WX.then_normal (WC.seq (WC.seq (WC.region (WL.move rfl rfl (WL.len Try.underlying22 rfl rfl (?_))))))))
  refine WL.move rfl rfl (WL.nil (WX.then_normal (WC.block (?_))))
  have lgo : gf < go := by omega
  have hq0 : Row (fun b => b = go) wq 23 erow (some ⟨go, 0, none⟩) 3 (List.replicate 3 nilRw) := ⟨fun a ea => by injection ea with ea; subst ea; rfl, hq.own⟩
  have hO0 : OR wq 23 5 go 3 [] n [] (List.replicate 3 nilRw) := ⟨hq0, fun i g x h => by simp at h, rfl, fun i j g h => by simp at h, fun i g h => by simp at h⟩
  have hwg : w.heap.size ≤ go := by omega
  refine WC.loop (σ := List Nat) (fun gs => [(0, .pointer (some ⟨gf, 0, none⟩)), (1, .slice ac rs.length cc), (2, vi n), (3, .slice none 0 0), (9, .slice (some ⟨go, 0, none⟩) 3 3), (15, vi 3), (16, vi gs.length)])
    (fun gs w' => gs.length ≤ 3 ∧ OR w' 23 5 go 3 gs n (List.replicate gs.length (List.replicate n 0)) (List.replicate (3 - gs.length) nilRw) ∧ Fld w' gf ∧ RS (fun b => b < gf) w' ac cc rs ∧ Chg (fun x => x = gf) w w') (fun gs => 3 - gs.length) [] ⟨rfl, rfl, rfl, rfl, rfl, rfl, rfl, trivial⟩ ⟨by decide, hO0, hF, hc, hw⟩ ?_
  clear hF hc hw hq hq0 hO0
  rintro gs w8 ⟨hg3, hO, hF, hc, hw⟩
  refine WC.seq (WC.region (?_))
  refine WL.lss? rfl rfl rfl (fun h17 => ?_) (fun h17 => ?_)
  ·
    refine WL.nil (WX.then_normal (WC.seq (WC.cond_true rfl (WC.skip (WX.then_normal (WC.seq (WC.block (?_))))))))
    refine WC.seq (WC.region (WL.move rfl rfl (WL.assign rfl rfl (WL.nil (WX.then_normal (WC.region (WL.move rfl rfl (?_))))))))
    refine WL.move rfl rfl (WL.move rfl rfl (?_))
    have lgs : ∀ (j g : Nat), gs[j]? = some g → g < w8.heap.size := fun j g h => hO.lt h
    have lgo8 := hO.lto
    refine WL.make (e := eb) (0 : UInt8) n n Try.underlying23 info_5 rfl rfl rfl ⟨rfl, rfl, Nat.le_refl _⟩ (by constructor <;> omega) rfl ?_
    intro g w9 hg9 k9 z9 eg
    rw [List.length_replicate]
    replace hO := hO.pure k9
    have hgr : Row (fun b => b = g) w9 5 eb (some ⟨g, 0, none⟩) n (List.replicate n 0) := ⟨fun a ea => by injection ea with ea; subst ea; rfl, hg9.own⟩
    obtain ⟨tl, htl⟩ : ∃ tl, List.replicate (3 - gs.length) nilRw = nilRw :: tl ∧ tl = List.replicate (3 - (gs.length + 1)) nilRw := ⟨_, by rw [show 3 - gs.length = (3 - (gs.length + 1)) + 1 from by omega, List.replicate_succ], rfl⟩
    rw [htl.1] at hO
    have hol : (orows gs n (List.replicate gs.length (List.replicate n 0)) ++ nilRw :: tl).length = 3 := by
      rw [List.length_append, orows_len (by rw [List.length_replicate]), htl.2, List.length_cons, List.length_replicate]
      omega
    have zs_k9 := k9.size
    replace hF := hF.pure k9
    replace hc := hc.pure k9
    replace hw := hw.pure k9
    refine WL.index (sz := 1) Try.underlying22 Try.sizeOf23 rfl rfl rfl (by omega) rfl ?_
    refine WL.storeRow (z := ⟨some ⟨g, 0, none⟩, n, List.replicate n 0⟩) gs.length Try.sizeOf23 hO.outer rfl (by show [Value.slice (some ⟨g, 0, none⟩) (List.replicate n 0).length n] = _; rw [List.length_replicate]) rfl (by show 0 + _ * 1 = _; omega) (by omega) rfl ?_
    intro w4 zs4 ho4 k4
    have zs_k4 := k4.size
    replace hF := hF.chg k4 (by first | (intro x h1 h2; exact h2) | (intro x h0 h1 h2; exact hS x h1 h2) | (intro x h0 h1 h2; have h3 : _ = _ := h2; subst h3; exact hSR h1.1) | (intro x h1 h2; have h3 : _ = _ := h2; subst h3; assumption) | (intro x h1 h2; have h3 : _ = _ := h2; exfalso; omega) | (intro b h1 h2 h3; have h4 : _ = _ := h3; (try dsimp only at h2); exfalso; omega) | (intro h1; have h2 : _ = _ := h1; exfalso; omega) | (intro h1; have h2 : _ ≤ _ := h1; exfalso; omega) | (intros; exfalso; (try dsimp only at *); omega) | (intro b h1 h2 h3; exfalso; have h4 := h3.2; (try dsimp only at *); omega) | (intro h1; exfalso; have h4 := h1.2; (try dsimp only at *); omega) | (intro x h1 h2; exfalso; have h4 := h2.2; (try dsimp only at *); omega) | (intro x h1 h2; exact ⟨_, rfl, h2⟩) | (intro x h1 h2; have h4 := h2.1; have h5 := h2.2; exfalso; omega) | (intro x h1 h2; exact h2.1) | (intro x h1 h2; rcases h2.1 with h3 | h3; exact h3; exfalso; omega) | (intro x h1 h2; rcases h2 with h3 | h3; exact h3; exfalso; omega))
    replace hc := hc.chg k4 (by first | (intro x h1 h2; exact h2) | (intro x h0 h1 h2; exact hS x h1 h2) | (intro x h0 h1 h2; have h3 : _ = _ := h2; subst h3; exact hSR h1.1) | (intro x h1 h2; have h3 : _ = _ := h2; subst h3; assumption) | (intro x h1 h2; have h3 : _ = _ := h2; exfalso; omega) | (intro b h1 h2 h3; have h4 : _ = _ := h3; (try dsimp only at h2); exfalso; omega) | (intro h1; have h2 : _ = _ := h1; exfalso; omega) | (intro h1; have h2 : _ ≤ _ := h1; exfalso; omega) | (intros; exfalso; (try dsimp only at *); omega) | (intro b h1 h2 h3; exfalso; have h4 := h3.2; (try dsimp only at *); omega) | (intro h1; exfalso; have h4 := h1.2; (try dsimp only at *); omega) | (intro x h1 h2; exfalso; have h4 := h2.2; (try dsimp only at *); omega) | (intro x h1 h2; exact ⟨_, rfl, h2⟩) | (intro x h1 h2; have h4 := h2.1; have h5 := h2.2; exfalso; omega) | (intro x h1 h2; exact h2.1) | (intro x h1 h2; rcases h2.1 with h3 | h3; exact h3; exfalso; omega) | (intro x h1 h2; rcases h2 with h3 | h3; exact h3; exfalso; omega))
    replace hw := hw.chg k4 (by first | (intro x h1 h2; exact h2) | (intro x h0 h1 h2; exact hS x h1 h2) | (intro x h0 h1 h2; have h3 : _ = _ := h2; subst h3; exact hSR h1.1) | (intro x h1 h2; have h3 : _ = _ := h2; subst h3; assumption) | (intro x h1 h2; have h3 : _ = _ := h2; exfalso; omega) | (intro b h1 h2 h3; have h4 : _ = _ := h3; (try dsimp only at h2); exfalso; omega) | (intro h1; have h2 : _ = _ := h1; exfalso; omega) | (intro h1; have h2 : _ ≤ _ := h1; exfalso; omega) | (intros; exfalso; (try dsimp only at *); omega) | (intro b h1 h2 h3; exfalso; have h4 := h3.2; (try dsimp only at *); omega) | (intro h1; exfalso; have h4 := h1.2; (try dsimp only at *); omega) | (intro x h1 h2; exfalso; have h4 := h2.2; (try dsimp only at *); omega) | (intro x h1 h2; exact ⟨_, rfl, h2⟩) | (intro x h1 h2; have h4 := h2.1; have h5 := h2.2; exfalso; omega) | (intro x h1 h2; exact h2.1) | (intro x h1 h2; rcases h2.1 with h3 | h3; exact h3; exfalso; omega) | (intro x h1 h2; rcases h2 with h3 | h3; exact h3; exfalso; omega))
    have hO2 := hO.snoc (g := g) (x := List.replicate n 0) (by omega) (fun i g' h => by have := lgs i g' h; omega) k4 (fun i g' h e => by have h2 : g' = go := e; have := hO.above i g' h; omega) ho4 (hgr.chg k4 (fun b h1 h2 h3 => by have h4 : b = go := h3; have h5 : b = g := h2; omega))
    refine WL.nil (WX.block_normal (WX.then_normal (WC.region (WL.add64 rfl rfl (by first | omega | (constructor <;> omega)) rfl (WL.move rfl rfl (WL.nil (?_)))))))
    first
      | (refine WX.loop_next (gs ++ [g]) ⟨rfl, rfl, rfl, rfl, rfl, rfl, ?_, trivial⟩ ⟨by rw [List.length_append]; show gs.length + 1 ≤ 3; omega, ?_, hF, hc, hw⟩ (by rw [List.length_append]; show 3 - (gs.length + 1) < 3 - gs.length; omega)
         ·
           rw [List.length_append]
           rfl
         ·
           rw [List.length_append, show gs.length + [g].length = gs.length + 1 from rfl, ← htl.2, List.replicate_succ']
           exact hO2)
      | exact WX.loop_next (i + 1) ⟨rfl, rfl, rfl, rfl, rfl, rfl, trivial⟩ ⟨by omega, hF, hO, hc, hk⟩ (by show _ - _ < _ - _; omega)
  ·
    refine WL.nil (WX.then_normal (WC.seq (WC.cond_false rfl (WC.exit (WX.then_exit (WX.then_exit (WX.block_here (?_))))))))
    refine WX.then_normal (WC.seq (WC.seq (WC.region (WL.move rfl rfl (WL.len Try.underlying22 rfl rfl (WL.move rfl rfl (WL.nil (?_))))))))
    refine WX.then_normal (WC.block (?_))
    have hgs3 : gs.length = 3 := by omega
    rw [hgs3] at hO
    have hO1 : OR w8 23 5 go 3 gs n (three (xss rs) n 0) [] := hO
    refine WC.loop (σ := Nat) (fun i => [(0, .pointer (some ⟨gf, 0, none⟩)), (3, .slice none 0 0), (9, .slice (some ⟨go, 0, none⟩) 3 3), (25, .slice ac rs.length cc), (26, vi rs.length), (27, vi i)])
      (fun i w' => i ≤ rs.length ∧ Fld w' gf ∧ OR w' 23 5 go 3 gs n (three (xss rs) n i) [] ∧ RS (fun b => b < gf) w' ac cc rs ∧ Chg (fun x => gf ≤ x) w8 w') (fun i => rs.length - i) 0 ⟨rfl, rfl, rfl, rfl, rfl, rfl, trivial⟩ ⟨Nat.zero_le _, hF, hO1, hc, Chg.refl _ _⟩ ?_
    clear hO hO1 hF hc
    rintro i w7 ⟨hi, hF, hO, hc, hk⟩
    refine WC.seq (WC.region (?_))
    refine WL.lss? rfl rfl rfl (fun h28 => ?_) (fun h28 => ?_)
    ·
      refine WL.nil (WX.then_normal (WC.seq (WC.cond_true rfl (WC.skip (WX.then_normal (WC.seq (WC.block (?_))))))))
      refine WC.seq (WC.region (WL.move rfl rfl (?_)))
      obtain ⟨r, hr⟩ : ∃ r, rs[i]? = some r := ⟨_, List.getElem?_eq_getElem (by omega)⟩
      have hrl := hall _ (xss_mem hr)
      have hcr := hc.at hr
      have hget : (xss rs).getD i [] = r.xs := by rw [List.getD_eq_getElem?_getD, xss, List.getElem?_map, hr]; rfl
      refine WL.indexT Try.underlying22 Try.sizeOf23 hc.outer rfl rfl ⟨hr, rfl⟩ rfl ?_
      intro b_1 o_1 hc_1
      refine WL.load Try.isAgg23 rfl (hc_1 0 _ rfl) rfl (WL.assign rfl rfl (WL.assign rfl rfl (WL.nil (WX.then_normal (WC.seq (WC.region (WL.move rfl rfl (?_))))))))
      refine WL.move rfl rfl (?_)
      refine WL.call eg_39 rfl rfl (contains_calls (RSl.nil (fun _ => True) _ ei none 0) (by decide) _) ?_
      rintro v w3 ⟨rfl, k⟩
      rw [show decide ((i : Int) ∈ ([] : List Int)) = false from rfl]
      have zs_k := k.size
      replace hF := hF.pure k
      replace hO := hO.pure k
      replace hc := hc.pure k
      replace hk := hk.pure k
      replace hcr := hcr.pure k
      refine WL.not rfl rfl (WL.nil (WX.then_normal (WC.cond_true rfl (WC.region (WL.move rfl rfl (WL.move rfl rfl (WL.move rfl rfl (?_))))))))
      refine WL.move rfl rfl (?_)
      have hl3 : ∀ y ∈ three (xss rs) n i, y.length = n := by
        have hp : ∀ q, (prow (wtq q) (xss rs) n i).length = n := fun q => prow_len hall (by rw [xss, List.length_map]; omega)
        intro y hy
        simp only [three, List.mem_cons, List.not_mem_nil, or_false] at hy
        rcases hy with rfl | rfl | rfl <;> exact hp _
      refine WL.call eg_51 rfl rfl (add_calls hF hO hgs3 hl3 hcr hrl lgo i hn) ?_
      rintro v w4 ⟨rfl, hR, hO2, k⟩
      rw [← hget, three_next] at hO2
      have zs_k := k.size
      replace hc := hc.chg k (by first | (intro x h1 h2; exact h2) | (intro x h0 h1 h2; exact hS x h1 h2) | (intro x h0 h1 h2; have h3 : _ = _ := h2; subst h3; exact hSR h1.1) | (intro x h1 h2; have h3 : _ = _ := h2; subst h3; assumption) | (intro x h1 h2; have h3 : _ = _ := h2; exfalso; omega) | (intro b h1 h2 h3; have h4 : _ = _ := h3; (try dsimp only at h2); exfalso; omega) | (intro h1; have h2 : _ = _ := h1; exfalso; omega) | (intro h1; have h2 : _ ≤ _ := h1; exfalso; omega) | (intros; exfalso; (try dsimp only at *); omega) | (intro b h1 h2 h3; exfalso; have h4 := h3.2; (try dsimp only at *); omega) | (intro h1; exfalso; have h4 := h1.2; (try dsimp only at *); omega) | (intro x h1 h2; exfalso; have h4 := h2.2; (try dsimp only at *); omega) | (intro x h1 h2; exact ⟨_, rfl, h2⟩) | (intro x h1 h2; have h4 := h2.1; have h5 := h2.2; exfalso; omega) | (intro x h1 h2; exact h2.1) | (intro x h1 h2; rcases h2.1 with h3 | h3; exact h3; exfalso; omega) | (intro x h1 h2; rcases h2 with h3 | h3; exact h3; exfalso; omega))
      replace hk := hk.chg k (fun x _ h => h)
      replace hF : Fld w4 gf := .inr hR
      replace hO := hO2
      refine WL.nil (WX.block_normal (WX.then_normal (WC.region (WL.add64 rfl rfl (by first | omega | (constructor <;> omega)) rfl (WL.move rfl rfl (WL.nil (?_)))))))
      first
        | (refine WX.loop_next (gs ++ [g]) ⟨rfl, rfl, rfl, rfl, rfl, rfl, ?_, trivial⟩ ⟨by rw [List.length_append]; show gs.length + 1 ≤ 3; omega, ?_, hF, hc, hw⟩ (by rw [List.length_append]; show 3 - (gs.length + 1) < 3 - gs.length; omega)
           ·
             rw [List.length_append]
             rfl
           ·
             rw [List.length_append, show gs.length + [g].length = gs.length + 1 from rfl, ← htl.2, List.replicate_succ']
             exact hO2)
        | exact WX.loop_next (i + 1) ⟨rfl, rfl, rfl, rfl, rfl, rfl, trivial⟩ ⟨by omega, hF, hO, hc, hk⟩ (by show _ - _ < _ - _; omega)
    ·
      refine WL.nil (WX.then_normal (WC.seq (WC.cond_false rfl (WC.exit (WX.then_exit (WX.then_exit (WX.block_here (?_))))))))
      refine WX.then_normal (WC.seq (WC.region (WL.move rfl rfl (WL.assign rfl rfl (WL.nil (WX.then_normal (WC.ret (?_))))))))
      refine WX.ret1 (.inl rfl) Try.results42 rfl ?_
      have hil : i = rs.length := by omega
      subst hil
      refine ⟨_, rfl, ⟨go, gs, rfl, hO, hgs3, hwg⟩, ?_⟩
      exact (hw.mono (M' := fun x => gf ≤ x) (fun x _ h => by have h2 : x = gf := h; omega)).chg hk (fun x h1 h2 => h2)
/-- the three parities of columns -/
theorem make_good {S : Nat → Prop} {w : World} {ac : Option Addr} {cc : Nat} {rs : List Rw} {n : Nat} (hc : RS S w ac cc rs) (h13 : rs.length ≤ 13) (hn : lenC (xss rs) = (n : Int)) :
    Calls Try.prog 21 [.slice ac rs.length cc].toArray w (Ret fun v w' => (∃ (go : Nat) (gs : List Nat), v = .tuple #[.slice (some ⟨go, 0, none⟩) 3 3, vi 0] ∧ OR w' 23 5 go 3 gs n (three (xss rs) n rs.length) [] ∧ gs.length = 3 ∧ w.heap.size ≤ go) ∧ Chg Nob w w') := by
  replace hc := hc.old
  have hw := Chg.refl Nob w
  obtain ⟨m, hm, hm1, hm2, hne, hall⟩ := lenC_some (cols := xss rs) (by omega)
  have hmn : m = n := by omega
  subst hmn
  refine Calls.of_WC Try.func21 rfl Try.ntmps21 (by simp) ?_
  refine WC.seq (WC.region (WL.assign rfl rfl (WL.assign rfl rfl (WL.nil (WX.then_normal (WC.seq (WC.region (?_))))))))
  refine WL.move rfl rfl (?_)
  refine WL.call eg_43 rfl rfl (length_calls hc (by omega)) ?_
  rintro v w1 ⟨rfl, k⟩
  rw [hm]
  have zs_k := k.size
  replace hc := hc.pure k
  replace hw := hw.pure k
  refine WL.assign rfl rfl (WL.nil (WX.then_normal (WC.seq (WC.seq (WC.region (WL.move rfl rfl (WL.len Try.underlying22 rfl rfl (?_))))))))
  refine WL.gtr rfl rfl rfl ?_
  rw [show decide ((rs.length : Int) > 13) = false from decide_eq_false (by omega)]
  refine WL.move rfl rfl (WL.want rfl rfl rfl (WL.move rfl rfl (WL.want rfl rfl rfl (?_))))
  refine WL.lss rfl rfl rfl ?_
  rw [show decide ((m : Int) < 0) = false from decide_eq_false (by omega)]
  refine WL.pickF rfl rfl rfl (WL.nil (WX.then_normal (WC.cond_false rfl (WC.skip (WX.then_normal (WC.seq (WC.region (?_))))))))
  refine WL.bld rfl bldF rfl ?_
  refine WL.box rfl rfl ?_
  intro g_1 w_1 hge_1 hlt_1 hb_1 k_1
  have zs_k_1 := k_1.size
  replace hc := hc.pure k_1
  replace hw := hw.pure k_1
  refine WL.move rfl rfl (WL.move rfl rfl (?_))
  have hF : Fld w_1 g_1 := .inl hb_1
  have zw0 := hw.size
  have hc2 : RS (fun b => b < g_1) w_1 ac cc rs := hc.mono (fun b hb => by have := k_1.size; omega)
  refine WL.call eg_42 rfl rfl (sums_calls hF hc2 (by omega) h13 hall) ?_
  rintro v w2 ⟨⟨go, gs, rfl, hO, hgs, hgo⟩, k⟩
  have zs_k := k.size
  replace hw := hw.chg k (by first | (intro x h1 h2; exact h2) | (intro x h0 h1 h2; exact hS x h1 h2) | (intro x h0 h1 h2; have h3 : _ = _ := h2; subst h3; exact hSR h1.1) | (intro x h1 h2; have h3 : _ = _ := h2; subst h3; assumption) | (intro x h1 h2; have h3 : _ = _ := h2; exfalso; omega) | (intro b h1 h2 h3; have h4 : _ = _ := h3; (try dsimp only at h2); exfalso; omega) | (intro h1; have h2 : _ = _ := h1; exfalso; omega) | (intro h1; have h2 : _ ≤ _ := h1; exfalso; omega) | (intros; exfalso; (try dsimp only at *); omega) | (intro b h1 h2 h3; exfalso; have h4 := h3.2; (try dsimp only at *); omega) | (intro h1; exfalso; have h4 := h1.2; (try dsimp only at *); omega) | (intro x h1 h2; exfalso; have h4 := h2.2; (try dsimp only at *); omega) | (intro x h1 h2; exact ⟨_, rfl, h2⟩) | (intro x h1 h2; have h4 := h2.1; have h5 := h2.2; exfalso; omega) | (intro x h1 h2; exact h2.1) | (intro x h1 h2; rcases h2.1 with h3 | h3; exact h3; exfalso; omega) | (intro x h1 h2; rcases h2 with h3 | h3; exact h3; exfalso; omega))
  refine WL.assign rfl rfl (WL.assign rfl rfl (WL.nil (WX.then_normal (WC.ret (?_)))))
  refine WX.ret2 (.inl rfl) Try.results21 rfl rfl ?_
  exact ⟨_, rfl, ⟨go, gs, rfl, hO, hgs, by omega⟩, hw⟩
theorem make_bad {S : Nat → Prop} {w : World} {ac : Option Addr} {cc : Nat} {rs : List Rw} (hc : RS S w ac cc rs) (hl : rs.length * 24 ≤ 140737488351232) (h : ¬ (rs.length ≤ 13 ∧ 0 ≤ lenC (xss rs))) :
    Calls Try.prog 21 [.slice ac rs.length cc].toArray w (Ret fun v w' => v = .tuple #[.slice none 0 0, vi 1] ∧ Chg Nob w w') := by
  replace hc := hc.old
  have hw := Chg.refl Nob w
  refine Calls.of_WC Try.func21 rfl Try.ntmps21 (by simp) ?_
  refine WC.seq (WC.region (WL.assign rfl rfl (WL.assign rfl rfl (WL.nil (WX.then_normal (WC.seq (WC.region (?_))))))))
  refine WL.move rfl rfl (?_)
  refine WL.call eg_43 rfl rfl (length_calls hc (by omega)) ?_
  rintro v w1 ⟨rfl, k⟩
  have zs_k := k.size
  replace hc := hc.pure k
  replace hw := hw.pure k
  refine WL.assign rfl rfl (WL.nil (WX.then_normal (WC.seq (WC.seq (WC.region (WL.move rfl rfl (WL.len Try.underlying22 rfl rfl (?_))))))))
  refine WL.gtr? rfl rfl rfl (fun h9 => ?_) (fun h9 => ?_)
  ·
    refine WL.move rfl rfl (WL.pass rfl rfl rfl rfl (WL.pass rfl rfl rfl rfl (WL.pickT rfl rfl rfl (WL.nil (WX.then_normal (WC.cond_true rfl (WC.seq (?_))))))))
    refine WC.region (WL.assign rfl rfl (WL.assign rfl rfl (WL.nil (WX.then_normal (WC.ret (WX.then_ret (?_)))))))
    refine WX.ret2 (.inl rfl) Try.results21 rfl rfl ?_
    exact ⟨_, rfl, rfl, hw⟩
  ·
    refine WL.move rfl rfl (WL.want rfl rfl rfl (WL.move rfl rfl (WL.want rfl rfl rfl (?_))))
    refine WL.lss? rfl rfl rfl (fun h12 => ?_) (fun h12 => ?_)
    ·
      refine WL.pickF rfl rfl rfl (WL.nil (WX.then_normal (WC.cond_true rfl (WC.seq (WC.region (WL.assign rfl rfl (WL.assign rfl rfl (?_))))))))
      refine WL.nil (WX.then_normal (WC.ret (WX.then_ret (?_))))
      refine WX.ret2 (.inl rfl) Try.results21 rfl rfl ?_
      exact ⟨_, rfl, rfl, hw⟩
    ·
      refine WL.pickF rfl rfl rfl (WL.nil (WX.then_normal (WC.cond_false rfl (WC.skip (WX.then_normal (WC.seq (WC.region (?_))))))))
      exfalso
      exact h ⟨by omega, by omega⟩
end Go.Proofs.Ytjdbjdgobhjbkaa
