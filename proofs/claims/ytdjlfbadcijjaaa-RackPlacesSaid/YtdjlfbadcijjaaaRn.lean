import Derived.Test.YtdjlfbadcijjaaaRm
namespace Go.Proofs.Ytdjlfbadcijjaaa
open Go.RowKit Go.HL

/-! a byte is another one -/
theorem RI.putMapN {S : Nat → Prop} {w w' : World} {m : Nat} {ga : Option Addr} {gc : Nat} {wa : Option Addr} {wc : Nat} {gl : List Bool} {ws ls ls2 : List (Pl × Rw)} (h : RI S w m ga gc wa wc gl ws ls) (hM : Mp kpl vsl w' m ls2) (k : Chg (· = m) w w') (hn : ∀ p ∈ ls2, (∃ q ∈ ls, q.2 = p.2) ∨ Row S w 5 eb p.2.ao p.2.cap p.2.xs) : RI S w' m ga gc wa wc gl ws ls2 := by
  have hk := h.map.kb
  have hd : ∀ T b, b < w.heap.size → b = m → kb w b ≠ some (some T) := by
    rintro T b _ rfl
    rw [hk]
    simp
  have hb : ∀ p ∈ ls2, Row S w 5 eb p.2.ao p.2.cap p.2.xs := fun p hp => by
    rcases hn p hp with ⟨q, hq, e⟩ | h1
    · rw [← e]; exact h.byl q hq
    · exact h1
  exact ⟨h.sm, hM, h.gone.chgK k (hd _), h.waits.chgK k (hd _), fun p hp => (hb p hp).chgK k (hd _), fun p hp => (h.byw p hp).chgK k (hd _)⟩
def rotX (n : Int) : UInt8 := B8 (1 + n / 128 % 255)
def rotB (b : List UInt8) (n : Int) : List UInt8 := b.set (n % 128).toNat (b.getD (n % 128).toNat 0 ^^^ rotX n)
theorem rotB_len (b : List UInt8) (n : Int) : (rotB b n).length = b.length := List.length_set ..
def rotS (s : RA) (p : Pl) (n : Int) : RA := match newV s.waits p with
  | some _ => { s with waits := putW s.waits p (rotB (heldS s p) n) }
  | none => { s with last := mput s.last p (rotB (heldS s p) n) }
def rotE (s : RA) (d a n : Int) : Int := if ¬ inS s d a ∨ n < 0 then 1 else if goneS s d = true then 3 else 0
theorem putW_mem {V : Type} {ws : List (Pl × V)} {p : Pl} {v : V} {x : Pl × V} (h : x ∈ putW ws p v) : x ∈ ws ∨ x = (p, v) := by
  rcases mput_mem (List.mem_reverse.1 h) with h1 | h1
  · exact .inl (List.mem_reverse.1 h1)
  · exact .inr h1
theorem rotS_ok {s : RA} (h : s.ok) (p : Pl) (n : Int) : (rotS s p n).ok := by
  have hl : (rotB (heldS s p) n).length = 128 := by rw [rotB_len]; exact heldS_len h p
  unfold rotS
  split
  · refine ⟨h.dn, h.sn, h.gl, h.ll, fun q hq => ?_, h.lf, h.nd⟩
    rcases putW_mem hq with h1 | h1
    · exact h.lw q h1
    · rw [h1]; exact hl
  · refine ⟨h.dn, h.sn, h.gl, fun q hq => ?_, h.lw, h.lf, mput_nodup h.nd⟩
    rcases mput_mem hq with h1 | h1
    · exact h.ll q h1
    · rw [h1]; exact hl
theorem splice3 (A D : List Value) (a b c v : Value) : (A ++ ([a, b, c] ++ D)).take (A.length + 2) ++ [v] ++ (A ++ ([a, b, c] ++ D)).drop (A.length + 2 + 1) = A ++ ([a, b, v] ++ D) := by
  rw [List.take_append, List.drop_append, List.take_of_length_le (l := A) (Nat.le_add_right _ _), List.drop_eq_nil_of_le (show A.length ≤ A.length + 2 + 1 from by omega)]
  rw [show A.length + 2 - A.length = 2 from by omega, show A.length + 2 + 1 - A.length = 3 from by omega]
  simp
theorem wr_set {ws : List (Pl × Rw)} {j : Nat} {x : Pl × Rw} (hx : ws[j]? = some x) (r : Rw) : (ewr.all ws).take (0 + j * 3 + 2) ++ [vsl r] ++ (ewr.all ws).drop (0 + j * 3 + 2 + 1) = ewr.all (ws.set j (x.1, r)) := by
  have hj := (List.getElem?_eq_some_iff.1 hx).1
  have hl : (ewr.all (ws.take j)).length = j * 3 := by
    rw [Enc.all_len, List.length_take, Nat.min_eq_left (Nat.le_of_lt hj)]
    rfl
  have e1 : ewr.all ws = ewr.all (ws.take j) ++ ([vi x.1.1, vi x.1.2, vsl x.2] ++ ewr.all (ws.drop (j + 1))) := by
    conv => lhs; rw [split_at hx]
    rw [Enc.all_append, Enc.all_append, List.append_assoc]
    rfl
  have e2 : ewr.all (ws.set j (x.1, r)) = ewr.all (ws.take j) ++ ([vi x.1.1, vi x.1.2, vsl r] ++ ewr.all (ws.drop (j + 1))) := by
    rw [List.set_eq_take_append_cons_drop, if_pos hj, Enc.all_append]
    rfl
  rw [e1, e2, Nat.zero_add, ← hl]
  exact splice3 _ _ _ _ _ _
set_option maxHeartbeats 1000000 in
theorem Rot_calls {A : Nat → Prop} {w : World} {R : Nat} {s : RA} (h : RK A w R s) (d a n : Int) (hn : n ≤ 9223372036854775807) :
    Calls Try.prog 19 [ptr R, vi d, vi a, vi n].toArray w (Ret fun v w' => v = vi (rotE s d a n) ∧ RK (fun x => A x ∨ w.heap.size ≤ x) w' R (if rotE s d a n = 0 then rotS s (d, a) n else s) ∧ Chg A w w') := by
  have aR := h.aR
  have hok := h.ok
  have hrok := rotS_ok h.ok (d, a) n
  replace h := h.old
  have hw := Chg.refl A w
  refine Calls.of_WC Try.func19 rfl Try.ntmps19 (by simp) ?_
  refine WC.seq (WC.region (WL.assign rfl rfl (WL.nil (WX.then_normal (WC.seq (WC.block (WC.seq (?_))))))))
  refine WC.region (WL.move rfl rfl (WL.move rfl rfl (WL.move rfl rfl (?_))))
  refine WL.call eg_30 rfl rfl (in_calls h d a) ?_
  rintro v w1 ⟨rfl, k1⟩
  have zs_k1 := k1.size
  replace h := h.pure k1
  replace hw := hw.pure k1
  by_cases h12 : inS s d a
  ·
    rw [show decide (0 ≤ d ∧ d < (s.dn : Int) ∧ 0 ≤ a ∧ a < (s.sn : Int)) = true from decide_eq_true h12]
    refine WL.not rfl rfl (WL.move rfl rfl (WL.want rfl rfl rfl (WL.move rfl rfl (WL.want rfl rfl rfl (?_)))))
    refine WL.lss? rfl rfl rfl (fun h20 => ?_) (fun h20 => ?_)
    ·
      refine WL.pickF rfl rfl rfl (WL.assign rfl rfl (WL.nil (WX.then_normal (WC.cond_true rfl (WC.seq (WC.region (WL.assign rfl rfl (?_))))))))
      refine WL.nil (WX.then_normal (WC.ret (WX.block_ret (WX.then_ret (?_)))))
      refine WX.ret1 (.inl rfl) Try.results19 rfl ?_
      first
        | (have hh : ¬ inS s d a := h12
           have e0 : rotE s d a n = 1 := by simp [rotE, hh]
           rw [e0]
           exact ⟨_, rfl, rfl, h.mono (fun x hx => .inl hx.1), hw⟩)
        | (have hh : n < 0 := h20
           have e0 : rotE s d a n = 1 := by simp [rotE, hh]
           rw [e0]
           exact ⟨_, rfl, rfl, h.mono (fun x hx => .inl hx.1), hw⟩)
        | (have hh : goneS s d = true := hg
           have hh2 : ¬ n < 0 := by omega
           have e0 : rotE s d a n = 3 := by simp [rotE, hh, hh2, h12]
           rw [e0]
           exact ⟨_, rfl, rfl, h.mono (fun x hx => .inl hx.1), hw⟩)
        | (have hh : ws[j]? = some x := hxj
           have hh2 : ¬ n < 0 := by omega
           have e0 : rotE s d a n = 0 := by simp [rotE, hg, hh2, h12]
           rw [e0, if_pos rfl]
           have e1 : rotS s (d, a) n = { s with waits := putW s.waits (d, a) (rotB (heldS s (d, a)) n) } := by
             unfold rotS
             rw [hws, xsm_newV, newV_some hxj hxp hno]
             rfl
           rw [e1] at hrok ⊢
           refine ⟨_, rfl, rfl, ⟨.inl aR, hrok, m, ga, gc, _, wc, _, ls, Eq.mp (congrArg (Blk _ R 66) ?_) hB, hI8.mono (fun x hx => hx.1), hls, ?_⟩, hw⟩
           ·
             simp
           ·
             show putW s.waits (d, a) (rotB (heldS s (d, a)) n) = _
             rw [hws, ← hrb, hxp, ← putW_some hxj hxp hno, xsm_putW])
        | (have hh2 : ¬ n < 0 := by omega
           have e0 : rotE s d a n = 0 := by simp [rotE, hg, hh2, h12]
           rw [e0, if_pos rfl]
           have e1 : rotS s (d, a) n = { s with last := mput s.last (d, a) (rotB (heldS s (d, a)) n) } := by
             unfold rotS
             rw [hws, xsm_newV, newV_none hno]
             rfl
           rw [e1] at hrok ⊢
           refine ⟨_, rfl, rfl, ⟨.inl aR, hrok, m, ga, gc, _, wc, _, _, hB, hI9.mono (fun x hx => hx.1), ?_, hws⟩, hw⟩
           show mput s.last (d, a) (rotB (heldS s (d, a)) n) = _
           rw [hls, ← hrb, xsm_put])
    ·
      refine WL.pickF rfl rfl rfl (WL.assign rfl rfl (WL.nil (WX.then_normal (WC.cond_false rfl (WC.seq (WC.region (WL.move rfl rfl (?_))))))))
      refine WL.nilCheck rfl rfl (WL.fieldAddr (fld_66_3) rfl rfl (?_))
      obtain ⟨m, ga, gc, wa, wc, ws, ls, hB, hI, hls, hws⟩ := h.ex
      refine WL.loadB Try.isAgg23 hB rfl rfl rfl ?_
      refine WL.move rfl rfl (?_)
      have hgd := goneS_at h.ok (d := d) ⟨h12.1, h12.2.1⟩
      refine WL.indexT (e := ebool) Try.underlying23 Try.sizeOf4 hI.gone.rsl rfl rfl ⟨hgd, by have := h12.1; omega⟩ rfl ?_
      intro bb oo hcc
      refine WL.load Try.isAgg4 rfl (hcc 0 _ rfl) rfl ?_
      rcases hg : goneS s d with _ | _
      ·
        clear hB hI hls hws hcc
        refine WL.assign rfl rfl (WL.nil (WX.then_normal (WC.cond_false rfl (WC.skip (WX.block_normal (WX.then_normal (WC.seq (?_))))))))
        refine WC.region (WL.move rfl rfl (WL.move rfl rfl (WL.bld rfl (bld_69_0_1 _ _) rfl (?_))))
        refine WL.alloc Try.zeroValue69 rfl ?_
        intro g_1 w_1 hge_1 hlt_1 hb_1 k_1
        have zs_k_1 := k_1.size
        replace h := h.pure k_1
        replace hw := hw.pure k_1
        refine WL.stores Try.sizeOf69 hb_1 rfl rfl (by first | (simp; done) | (simp; omega) | rfl) (by first | exact Enc.one _ _ | (intro u hu; obtain ⟨x, _, rfl⟩ := List.mem_map.1 hu; rfl) | (simp [Value.oneCell']; done) | (simp [Value.oneCell', Value.cells]; done)) (by first | (simp; done) | (simp; omega) | (simp [Value.cells]; done) | (simp [Value.cells]; omega) | exact Nat.le_of_ble_eq_true rfl) rfl ?_
        intro w_2 hs_2 hn_2 k_2
        have zs_k_2 := k_2.size
        replace h := h.chg k_2 (by first | (intro x h1 h2; exact h2) | (intro x h0 h1 h2; exact hS x h1 h2) | (intro x h0 h1 h2; have h3 : _ = _ := h2; subst h3; exact hSR h1.1) | (intro x h1 h2; have h3 : _ = _ := h2; subst h3; assumption) | (intro x h1 h2; have h3 : _ = _ := h2; exfalso; omega) | (intro b h1 h2 h3; have h4 : _ = _ := h3; (try dsimp only at h2); exfalso; omega) | (intro h1; have h2 : _ = _ := h1; exfalso; omega) | (intros; exfalso; (try dsimp only at *); omega) | (intro b h1 h2 h3; exfalso; have h4 := h3.2; (try dsimp only at *); omega) | (intro h1; exfalso; have h4 := h1.2; (try dsimp only at *); omega) | (intro x h1 h2; exfalso; have h4 := h2.2; (try dsimp only at *); omega) | (intro x h1 h2; exact ⟨_, rfl, h2⟩) | (intro x h1 h2; exact h2.1) | (intro x h1 h2; rcases h2.1 with h3 | h3; exact h3; exfalso; omega) | (intro x h1 h2; rcases h2 with h3 | h3; exact h3; exfalso; omega))
        replace hw := hw.chg k_2 (by first | (intro x h1 h2; exact h2) | (intro x h0 h1 h2; exact hS x h1 h2) | (intro x h0 h1 h2; have h3 : _ = _ := h2; subst h3; exact hSR h1.1) | (intro x h1 h2; have h3 : _ = _ := h2; subst h3; assumption) | (intro x h1 h2; have h3 : _ = _ := h2; exfalso; omega) | (intro b h1 h2 h3; have h4 : _ = _ := h3; (try dsimp only at h2); exfalso; omega) | (intro h1; have h2 : _ = _ := h1; exfalso; omega) | (intros; exfalso; (try dsimp only at *); omega) | (intro b h1 h2 h3; exfalso; have h4 := h3.2; (try dsimp only at *); omega) | (intro h1; exfalso; have h4 := h1.2; (try dsimp only at *); omega) | (intro x h1 h2; exfalso; have h4 := h2.2; (try dsimp only at *); omega) | (intro x h1 h2; exact ⟨_, rfl, h2⟩) | (intro x h1 h2; exact h2.1) | (intro x h1 h2; rcases h2.1 with h3 | h3; exact h3; exfalso; omega) | (intro x h1 h2; rcases h2 with h3 | h3; exact h3; exfalso; omega))
        replace hb_1 := hn_2
        refine WL.nil (WX.then_normal (WC.seq (WC.region (?_))))
        have hb8 : Blk _ g_1 69 [vi d, vi a] := hb_1
        refine WL.move rfl rfl ?_
        refine WL.loadsB Try.isAgg69 Try.sizeOf69 hb8 rfl (by first | (simp; done) | (simp; omega) | rfl) rfl (?_)
        refine WL.call eg_33 rfl rfl (held_calls h (d, a)) ?_
        rintro v w2 ⟨⟨r, rfl, hr, hx⟩, k2⟩
        have zs_k2 := k2.size
        replace h := h.pure k2
        replace hw := hw.pure k2
        replace hb8 := hb8.pure k2
        have hxl : r.xs.length = 128 := by rw [hx]; exact heldS_len hok _
        refine WL.call eg_32 rfl rfl (clone_calls hr hxl) ?_
        rintro v w3 ⟨⟨gq, cq, rfl, hq, hq1, hq2⟩, k3⟩
        have zw3 := hw.size
        have zs_k3 := k3.size
        replace h := h.pure k3
        replace hw := hw.pure k3
        replace hb8 := hb8.pure k3
        refine WL.assign rfl rfl (WL.nil (WX.then_normal (WC.seq (WC.region (WL.move rfl rfl (WL.move rfl rfl (WL.rem64i rfl rfl (by constructor <;> omega) rfl (?_))))))))
        obtain ⟨kk, hk⟩ : ∃ kk, r.xs[(n % 128).toNat]? = some kk := ⟨_, List.getElem?_eq_getElem (by omega)⟩
        refine WL.indexC hq.rsl Try.underlying30 Try.sizeOf5 rfl rfl ⟨hk, by omega⟩ rfl ?_
        refine WL.load Try.isAgg5 rfl (hq.rsl.cellsAt hk 0 _ rfl) rfl ?_
        refine WL.move rfl rfl (WL.quo64i rfl rfl (by refine ⟨?_, ?_, ?_⟩ <;> omega) rfl (WL.rem64i rfl rfl (by constructor <;> omega) rfl (WL.add64 rfl rfl (by first | omega | (constructor <;> omega)) rfl (WL.c_i64_u8 Try.underlying3 Try.underlying5 rfl rfl (WL.num rfl rfl (n_xor8 _ _ _ _) rfl (?_))))))
        refine WL.index (j := (n % 128).toNat) Try.underlying30 Try.sizeOf5 rfl rfl (by omega) (by omega) rfl ?_
        refine WL.storeRow (z := kk ^^^ B8 (1 + n / 128 % 255)) ((n % 128).toNat) Try.sizeOf5 hq rfl rfl rfl (by first | (simp; done) | (show 0 + _ * 1 = _; omega)) (by omega) rfl ?_
        intro w_3 zs_3 nr_3 k_3
        have zs_k_3 := k_3.size
        replace h := h.chg k_3 (by first | (intro x h1 h2; exact h2) | (intro x h0 h1 h2; exact hS x h1 h2) | (intro x h0 h1 h2; have h3 : _ = _ := h2; subst h3; exact hSR h1.1) | (intro x h1 h2; have h3 : _ = _ := h2; subst h3; assumption) | (intro x h1 h2; have h3 : _ = _ := h2; exfalso; omega) | (intro b h1 h2 h3; have h4 : _ = _ := h3; (try dsimp only at h2); exfalso; omega) | (intro h1; have h2 : _ = _ := h1; exfalso; omega) | (intros; exfalso; (try dsimp only at *); omega) | (intro b h1 h2 h3; exfalso; have h4 := h3.2; (try dsimp only at *); omega) | (intro h1; exfalso; have h4 := h1.2; (try dsimp only at *); omega) | (intro x h1 h2; exfalso; have h4 := h2.2; (try dsimp only at *); omega) | (intro x h1 h2; exact ⟨_, rfl, h2⟩) | (intro x h1 h2; exact h2.1) | (intro x h1 h2; rcases h2.1 with h3 | h3; exact h3; exfalso; omega) | (intro x h1 h2; rcases h2 with h3 | h3; exact h3; exfalso; omega))
        replace hw := hw.chg k_3 (by first | (intro x h1 h2; exact h2) | (intro x h0 h1 h2; exact hS x h1 h2) | (intro x h0 h1 h2; have h3 : _ = _ := h2; subst h3; exact hSR h1.1) | (intro x h1 h2; have h3 : _ = _ := h2; subst h3; assumption) | (intro x h1 h2; have h3 : _ = _ := h2; exfalso; omega) | (intro b h1 h2 h3; have h4 : _ = _ := h3; (try dsimp only at h2); exfalso; omega) | (intro h1; have h2 : _ = _ := h1; exfalso; omega) | (intros; exfalso; (try dsimp only at *); omega) | (intro b h1 h2 h3; exfalso; have h4 := h3.2; (try dsimp only at *); omega) | (intro h1; exfalso; have h4 := h1.2; (try dsimp only at *); omega) | (intro x h1 h2; exfalso; have h4 := h2.2; (try dsimp only at *); omega) | (intro x h1 h2; exact ⟨_, rfl, h2⟩) | (intro x h1 h2; exact h2.1) | (intro x h1 h2; rcases h2.1 with h3 | h3; exact h3; exfalso; omega) | (intro x h1 h2; rcases h2 with h3 | h3; exact h3; exfalso; omega))
        replace hb8 := hb8.chg k_3 (by first | (intro x h1 h2; exact h2) | (intro x h0 h1 h2; exact hS x h1 h2) | (intro x h0 h1 h2; have h3 : _ = _ := h2; subst h3; exact hSR h1.1) | (intro x h1 h2; have h3 : _ = _ := h2; subst h3; assumption) | (intro x h1 h2; have h3 : _ = _ := h2; exfalso; omega) | (intro b h1 h2 h3; have h4 : _ = _ := h3; (try dsimp only at h2); exfalso; omega) | (intro h1; have h2 : _ = _ := h1; exfalso; omega) | (intros; exfalso; (try dsimp only at *); omega) | (intro b h1 h2 h3; exfalso; have h4 := h3.2; (try dsimp only at *); omega) | (intro h1; exfalso; have h4 := h1.2; (try dsimp only at *); omega) | (intro x h1 h2; exfalso; have h4 := h2.2; (try dsimp only at *); omega) | (intro x h1 h2; exact ⟨_, rfl, h2⟩) | (intro x h1 h2; exact h2.1) | (intro x h1 h2; rcases h2.1 with h3 | h3; exact h3; exfalso; omega) | (intro x h1 h2; rcases h2 with h3 | h3; exact h3; exfalso; omega))
        replace hq := nr_3
        have hrb : r.xs.set (n % 128).toNat (kk ^^^ B8 (1 + n / 128 % 255)) = rotB (heldS s (d, a)) n := by
          rw [rotB, ← hx, List.getD_eq_getElem?_getD, hk]
          rfl
        have hqS : Row (fun x => (A x ∨ w.heap.size ≤ x) ∧ x ≠ R) _ 5 eb (some ⟨gq, 0, none⟩) cq (r.xs.set (n % 128).toNat (kk ^^^ B8 (1 + n / 128 % 255))) := ((h.ne hq).mono (fun x hx => ⟨.inr (by have := hx.1; omega), hx.2⟩))
        refine WL.nil (WX.then_normal (WC.seq (WC.seq (WC.region (WL.move rfl rfl (WL.loadsB Try.isAgg69 Try.sizeOf69 hb8 rfl (by first | (simp; done) | (simp; omega) | rfl) rfl (?_)))))))
        obtain ⟨m, ga, gc, wa, wc, ws, ls, hB, hI, hls, hws⟩ := h.ex
        have am : A m := hI.sm.1
        have lm : m < w.heap.size := hI.sm.2
        have lR : R < w.heap.size := h.aR.2
        replace hI := hI.open hB
        have hmR : m ≠ R := hI.sm.2
        refine WL.call eg_34 rfl rfl (newest_calls hB hI.waits (d, a)) ?_
        rintro v w5 ⟨⟨ao, rfl, hnew⟩, k5⟩
        have zs_k5 := k5.size
        replace hw := hw.pure k5
        replace hb8 := hb8.pure k5
        replace hqS := hqS.pure k5
        replace hB := hB.pure k5
        replace hI := hI.pure k5
        refine WL.assign rfl rfl (WL.nil (WX.then_normal (WC.seq (WC.region (WL.move rfl rfl (?_))))))
        refine WL.ptrSome Try.underlying74 rfl rfl rfl ?_
        rcases hnew with ⟨rfl, hno⟩ | ⟨j, x, gW, hxj, hxp, hno, rfl, rfl⟩
        ·
          refine WL.nil (WX.then_normal (WC.cond_false rfl (WC.skip (WX.then_normal (WC.seq (?_))))))
          replace hI := hI.mono (S' := fun x => (A x ∨ w.heap.size ≤ x) ∧ x ≠ R) (fun x hx => ⟨.inl hx.1.1, hx.2⟩)
          refine WC.draw ((fun x => x = m)) [0, 1, 2, 3, 4, 5] [6] mixed rfl rfl (fun wd_4 kd_4 zd_4 => ?_)
          have zs_kd_4 := kd_4.size
          replace hw := hw.pure kd_4
          replace hb8 := hb8.pure kd_4
          replace hqS := hqS.pure kd_4
          replace hB := hB.pure kd_4
          replace hI := hI.pure kd_4
          apply DQ.step (E' := [(0, _)])
          case ho => rfl
          case hs => exact ⟨rfl, trivial⟩
          case hk => rfl
          case h1 =>
            intro wq_6 kq_6
            refine WL.move rfl rfl (?_)
            refine WL.nil ?_
            exact WX.one ⟨rfl, by first | exact Chg.refl _ _ | assumption⟩
          apply DQ.step (E' := [(58, _)])
          case ho => rfl
          case hs => exact ⟨rfl, trivial⟩
          case hk => rfl
          case h1 =>
            intro wq_7 kq_7
            refine WL.nilCheck rfl rfl (?_)
            refine WL.nil ?_
            exact WX.one ⟨rfl, by first | exact Chg.refl _ _ | assumption⟩
          apply DQ.step (E' := [(59, _)])
          case ho => rfl
          case hs => exact ⟨rfl, trivial⟩
          case hk => rfl
          case h1 =>
            intro wq_8 kq_8
            refine WL.fieldAddr (fld_66_2) rfl rfl (?_)
            refine WL.nil ?_
            exact WX.one ⟨rfl, by first | exact Chg.refl _ _ | assumption⟩
          apply DQ.step (E' := [(60, _)])
          case ho => rfl
          case hs => exact ⟨rfl, trivial⟩
          case hk => rfl
          case h1 =>
            intro wq_9 kq_9
            have zs_kq_9 := kq_9.size
            replace hw := hw.chg kq_9 (by first | (intro x h1 h2; exact h2) | (intro x h0 h1 h2; exact hS x h1 h2) | (intro x h0 h1 h2; have h3 : _ = _ := h2; subst h3; exact hSR h1.1) | (intro x h1 h2; have h3 : _ = _ := h2; subst h3; assumption) | (intro x h1 h2; have h3 : _ = _ := h2; exfalso; omega) | (intro b h1 h2 h3; have h4 : _ = _ := h3; (try dsimp only at h2); exfalso; omega) | (intro h1; have h2 : _ = _ := h1; exfalso; omega) | (intros; exfalso; (try dsimp only at *); omega) | (intro b h1 h2 h3; exfalso; have h4 := h3.2; (try dsimp only at *); omega) | (intro h1; exfalso; have h4 := h1.2; (try dsimp only at *); omega) | (intro x h1 h2; exfalso; have h4 := h2.2; (try dsimp only at *); omega) | (intro x h1 h2; exact ⟨_, rfl, h2⟩) | (intro x h1 h2; exact h2.1) | (intro x h1 h2; rcases h2.1 with h3 | h3; exact h3; exfalso; omega) | (intro x h1 h2; rcases h2 with h3 | h3; exact h3; exfalso; omega))
            replace hb8 := hb8.chg kq_9 (by first | (intro x h1 h2; exact h2) | (intro x h0 h1 h2; exact hS x h1 h2) | (intro x h0 h1 h2; have h3 : _ = _ := h2; subst h3; exact hSR h1.1) | (intro x h1 h2; have h3 : _ = _ := h2; subst h3; assumption) | (intro x h1 h2; have h3 : _ = _ := h2; exfalso; omega) | (intro b h1 h2 h3; have h4 : _ = _ := h3; (try dsimp only at h2); exfalso; omega) | (intro h1; have h2 : _ = _ := h1; exfalso; omega) | (intros; exfalso; (try dsimp only at *); omega) | (intro b h1 h2 h3; exfalso; have h4 := h3.2; (try dsimp only at *); omega) | (intro h1; exfalso; have h4 := h1.2; (try dsimp only at *); omega) | (intro x h1 h2; exfalso; have h4 := h2.2; (try dsimp only at *); omega) | (intro x h1 h2; exact ⟨_, rfl, h2⟩) | (intro x h1 h2; exact h2.1) | (intro x h1 h2; rcases h2.1 with h3 | h3; exact h3; exfalso; omega) | (intro x h1 h2; rcases h2 with h3 | h3; exact h3; exfalso; omega))
            replace hB := hB.chg kq_9 (by first | (intro x h1 h2; exact h2) | (intro x h0 h1 h2; exact hS x h1 h2) | (intro x h0 h1 h2; have h3 : _ = _ := h2; subst h3; exact hSR h1.1) | (intro x h1 h2; have h3 : _ = _ := h2; subst h3; assumption) | (intro x h1 h2; have h3 : _ = _ := h2; exfalso; omega) | (intro b h1 h2 h3; have h4 : _ = _ := h3; (try dsimp only at h2); exfalso; omega) | (intro h1; have h2 : _ = _ := h1; exfalso; omega) | (intros; exfalso; (try dsimp only at *); omega) | (intro b h1 h2 h3; exfalso; have h4 := h3.2; (try dsimp only at *); omega) | (intro h1; exfalso; have h4 := h1.2; (try dsimp only at *); omega) | (intro x h1 h2; exfalso; have h4 := h2.2; (try dsimp only at *); omega) | (intro x h1 h2; exact ⟨_, rfl, h2⟩) | (intro x h1 h2; exact h2.1) | (intro x h1 h2; rcases h2.1 with h3 | h3; exact h3; exfalso; omega) | (intro x h1 h2; rcases h2 with h3 | h3; exact h3; exfalso; omega))
            refine WL.loadB Try.isAgg63 hB rfl rfl rfl (?_)
            refine WL.nil ?_
            exact WX.one ⟨rfl, by first | exact Chg.refl _ _ | assumption⟩
          apply DQ.step (E' := [(9, _)])
          case ho => rfl
          case hs => exact ⟨rfl, trivial⟩
          case hk => rfl
          case h1 =>
            intro wq_10 kq_10
            have zs_kq_10 := kq_10.size
            replace hw := hw.chg kq_10 (by first | (intro x h1 h2; exact h2) | (intro x h0 h1 h2; exact hS x h1 h2) | (intro x h0 h1 h2; have h3 : _ = _ := h2; subst h3; exact hSR h1.1) | (intro x h1 h2; have h3 : _ = _ := h2; subst h3; assumption) | (intro x h1 h2; have h3 : _ = _ := h2; exfalso; omega) | (intro b h1 h2 h3; have h4 : _ = _ := h3; (try dsimp only at h2); exfalso; omega) | (intro h1; have h2 : _ = _ := h1; exfalso; omega) | (intros; exfalso; (try dsimp only at *); omega) | (intro b h1 h2 h3; exfalso; have h4 := h3.2; (try dsimp only at *); omega) | (intro h1; exfalso; have h4 := h1.2; (try dsimp only at *); omega) | (intro x h1 h2; exfalso; have h4 := h2.2; (try dsimp only at *); omega) | (intro x h1 h2; exact ⟨_, rfl, h2⟩) | (intro x h1 h2; exact h2.1) | (intro x h1 h2; rcases h2.1 with h3 | h3; exact h3; exfalso; omega) | (intro x h1 h2; rcases h2 with h3 | h3; exact h3; exfalso; omega))
            replace hb8 := hb8.chg kq_10 (by first | (intro x h1 h2; exact h2) | (intro x h0 h1 h2; exact hS x h1 h2) | (intro x h0 h1 h2; have h3 : _ = _ := h2; subst h3; exact hSR h1.1) | (intro x h1 h2; have h3 : _ = _ := h2; subst h3; assumption) | (intro x h1 h2; have h3 : _ = _ := h2; exfalso; omega) | (intro b h1 h2 h3; have h4 : _ = _ := h3; (try dsimp only at h2); exfalso; omega) | (intro h1; have h2 : _ = _ := h1; exfalso; omega) | (intros; exfalso; (try dsimp only at *); omega) | (intro b h1 h2 h3; exfalso; have h4 := h3.2; (try dsimp only at *); omega) | (intro h1; exfalso; have h4 := h1.2; (try dsimp only at *); omega) | (intro x h1 h2; exfalso; have h4 := h2.2; (try dsimp only at *); omega) | (intro x h1 h2; exact ⟨_, rfl, h2⟩) | (intro x h1 h2; exact h2.1) | (intro x h1 h2; rcases h2.1 with h3 | h3; exact h3; exfalso; omega) | (intro x h1 h2; rcases h2 with h3 | h3; exact h3; exfalso; omega))
            replace hB := hB.chg kq_10 (by first | (intro x h1 h2; exact h2) | (intro x h0 h1 h2; exact hS x h1 h2) | (intro x h0 h1 h2; have h3 : _ = _ := h2; subst h3; exact hSR h1.1) | (intro x h1 h2; have h3 : _ = _ := h2; subst h3; assumption) | (intro x h1 h2; have h3 : _ = _ := h2; exfalso; omega) | (intro b h1 h2 h3; have h4 : _ = _ := h3; (try dsimp only at h2); exfalso; omega) | (intro h1; have h2 : _ = _ := h1; exfalso; omega) | (intros; exfalso; (try dsimp only at *); omega) | (intro b h1 h2 h3; exfalso; have h4 := h3.2; (try dsimp only at *); omega) | (intro h1; exfalso; have h4 := h1.2; (try dsimp only at *); omega) | (intro x h1 h2; exfalso; have h4 := h2.2; (try dsimp only at *); omega) | (intro x h1 h2; exact ⟨_, rfl, h2⟩) | (intro x h1 h2; exact h2.1) | (intro x h1 h2; rcases h2.1 with h3 | h3; exact h3; exfalso; omega) | (intro x h1 h2; rcases h2 with h3 | h3; exact h3; exfalso; omega))
            refine WL.loadsB Try.isAgg69 Try.sizeOf69 hb8 rfl (by first | (simp; done) | (simp; omega) | rfl) rfl (?_)
            refine WL.nil ?_
            exact WX.one ⟨rfl, by first | exact Chg.refl _ _ | assumption⟩
          apply DQ.step (E' := [(10, _)])
          case ho => rfl
          case hs => exact ⟨rfl, trivial⟩
          case hk => rfl
          case h1 =>
            intro wq_11 kq_11
            refine WL.move rfl rfl (?_)
            refine WL.nil ?_
            exact WX.one ⟨rfl, by first | exact Chg.refl _ _ | assumption⟩
          refine DQ.done (fun hd_5 => ?_)
          refine DL.step [(61, _), (62, _), (63, _)] rfl ⟨rfl, rfl, rfl, trivial⟩ rfl (fun wq_12 kq_12 => ?_)
          have zs_kq_12 := kq_12.size
          replace hw := hw.pure kq_12
          replace hb8 := hb8.pure kq_12
          replace hqS := hqS.pure kq_12
          replace hB := hB.pure kq_12
          replace hI := hI.pure kq_12
          replace hd_5 := hd_5.pure kq_12
          refine WL.mput (v := (⟨some ⟨gq, 0, none⟩, cq, r.xs.set (n % 128).toNat (kk ^^^ B8 (1 + n / 128 % 255))⟩ : Rw)) plOk Try.underlying63 hI.map rfl (show _ = some (kpl (d, a)) from rfl) (show _ = some (Value.slice (some ⟨gq, 0, none⟩) (r.xs.set (n % 128).toNat (kk ^^^ B8 (1 + n / 128 % 255))).length cq) from by rw [List.length_set]; rfl) ?_
          intro w9 z9 hM9 k9
          have hI9 := hI.putMapN hM9 k9 (fun p hp => by
            rcases mput_mem hp with h3 | h3
            ·
              exact .inl ⟨p, h3, rfl⟩
            ·
              right
              rw [h3]
              exact hqS)
          have zs_k9 := k9.size
          replace hw := hw.chg k9 (by first | (intro x h1 h2; exact h2) | (intro x h0 h1 h2; exact hS x h1 h2) | (intro x h0 h1 h2; have h3 : _ = _ := h2; subst h3; exact hSR h1.1) | (intro x h1 h2; have h3 : _ = _ := h2; subst h3; assumption) | (intro x h1 h2; have h3 : _ = _ := h2; exfalso; omega) | (intro b h1 h2 h3; have h4 : _ = _ := h3; (try dsimp only at h2); exfalso; omega) | (intro h1; have h2 : _ = _ := h1; exfalso; omega) | (intros; exfalso; (try dsimp only at *); omega) | (intro b h1 h2 h3; exfalso; have h4 := h3.2; (try dsimp only at *); omega) | (intro h1; exfalso; have h4 := h1.2; (try dsimp only at *); omega) | (intro x h1 h2; exfalso; have h4 := h2.2; (try dsimp only at *); omega) | (intro x h1 h2; exact ⟨_, rfl, h2⟩) | (intro x h1 h2; exact h2.1) | (intro x h1 h2; rcases h2.1 with h3 | h3; exact h3; exfalso; omega) | (intro x h1 h2; rcases h2 with h3 | h3; exact h3; exfalso; omega))
          replace hB := hB.chg k9 (by first | (intro x h1 h2; exact h2) | (intro x h0 h1 h2; exact hS x h1 h2) | (intro x h0 h1 h2; have h3 : _ = _ := h2; subst h3; exact hSR h1.1) | (intro x h1 h2; have h3 : _ = _ := h2; subst h3; assumption) | (intro x h1 h2; have h3 : _ = _ := h2; exfalso; omega) | (intro b h1 h2 h3; have h4 : _ = _ := h3; (try dsimp only at h2); exfalso; omega) | (intro h1; have h2 : _ = _ := h1; exfalso; omega) | (intros; exfalso; (try dsimp only at *); omega) | (intro b h1 h2 h3; exfalso; have h4 := h3.2; (try dsimp only at *); omega) | (intro h1; exfalso; have h4 := h1.2; (try dsimp only at *); omega) | (intro x h1 h2; exfalso; have h4 := h2.2; (try dsimp only at *); omega) | (intro x h1 h2; exact ⟨_, rfl, h2⟩) | (intro x h1 h2; exact h2.1) | (intro x h1 h2; rcases h2.1 with h3 | h3; exact h3; exfalso; omega) | (intro x h1 h2; rcases h2 with h3 | h3; exact h3; exfalso; omega))
          replace hd_5 := hd_5.chg k9 (by first | (intro x h1 h2; exact h2) | (intro x h0 h1 h2; exact hS x h1 h2) | (intro x h0 h1 h2; have h3 : _ = _ := h2; subst h3; exact hSR h1.1) | (intro x h1 h2; have h3 : _ = _ := h2; subst h3; assumption) | (intro x h1 h2; have h3 : _ = _ := h2; exfalso; omega) | (intro b h1 h2 h3; have h4 : _ = _ := h3; (try dsimp only at h2); exfalso; omega) | (intro h1; have h2 : _ = _ := h1; exfalso; omega) | (intros; exfalso; (try dsimp only at *); omega) | (intro b h1 h2 h3; exfalso; have h4 := h3.2; (try dsimp only at *); omega) | (intro h1; exfalso; have h4 := h1.2; (try dsimp only at *); omega) | (intro x h1 h2; exfalso; have h4 := h2.2; (try dsimp only at *); omega) | (intro x h1 h2; exact ⟨_, rfl, h2⟩) | (intro x h1 h2; exact h2.1) | (intro x h1 h2; rcases h2.1 with h3 | h3; exact h3; exfalso; omega) | (intro x h1 h2; rcases h2 with h3 | h3; exact h3; exfalso; omega))
          refine WL.nil ?_
          refine WX.one0 (v := undef) ⟨hd_5, ?_⟩
          refine DL.done (fun we_13 ke_13 => ?_)
          have zs_ke_13 := ke_13.size
          replace hw := hw.pure ke_13
          replace hB := hB.pure ke_13
          replace hd_5 := hd_5.pure ke_13
          replace hI9 := hI9.pure ke_13
          refine WX.then_normal (WC.seq (WC.region (WL.assign rfl rfl (WL.nil (WX.then_normal (WC.ret (?_)))))))
          refine WX.ret1 (.inl rfl) Try.results19 rfl ?_
          first
            | (have hh : ¬ inS s d a := h12
               have e0 : rotE s d a n = 1 := by simp [rotE, hh]
               rw [e0]
               exact ⟨_, rfl, rfl, h.mono (fun x hx => .inl hx.1), hw⟩)
            | (have hh : n < 0 := h20
               have e0 : rotE s d a n = 1 := by simp [rotE, hh]
               rw [e0]
               exact ⟨_, rfl, rfl, h.mono (fun x hx => .inl hx.1), hw⟩)
            | (have hh : goneS s d = true := hg
               have hh2 : ¬ n < 0 := by omega
               have e0 : rotE s d a n = 3 := by simp [rotE, hh, hh2, h12]
               rw [e0]
               exact ⟨_, rfl, rfl, h.mono (fun x hx => .inl hx.1), hw⟩)
            | (have hh : ws[j]? = some x := hxj
               have hh2 : ¬ n < 0 := by omega
               have e0 : rotE s d a n = 0 := by simp [rotE, hg, hh2, h12]
               rw [e0, if_pos rfl]
               have e1 : rotS s (d, a) n = { s with waits := putW s.waits (d, a) (rotB (heldS s (d, a)) n) } := by
                 unfold rotS
                 rw [hws, xsm_newV, newV_some hxj hxp hno]
                 rfl
               rw [e1] at hrok ⊢
               refine ⟨_, rfl, rfl, ⟨.inl aR, hrok, m, ga, gc, _, wc, _, ls, Eq.mp (congrArg (Blk _ R 66) ?_) hB, hI8.mono (fun x hx => hx.1), hls, ?_⟩, hw⟩
               ·
                 simp
               ·
                 show putW s.waits (d, a) (rotB (heldS s (d, a)) n) = _
                 rw [hws, ← hrb, hxp, ← putW_some hxj hxp hno, xsm_putW])
            | (have hh2 : ¬ n < 0 := by omega
               have e0 : rotE s d a n = 0 := by simp [rotE, hg, hh2, h12]
               rw [e0, if_pos rfl]
               have e1 : rotS s (d, a) n = { s with last := mput s.last (d, a) (rotB (heldS s (d, a)) n) } := by
                 unfold rotS
                 rw [hws, xsm_newV, newV_none hno]
                 rfl
               rw [e1] at hrok ⊢
               refine ⟨_, rfl, rfl, ⟨.inl aR, hrok, m, ga, gc, _, wc, _, _, hB, hI9.mono (fun x hx => hx.1), ?_, hws⟩, hw⟩
               show mput s.last (d, a) (rotB (heldS s (d, a)) n) = _
               rw [hls, ← hrb, xsm_put])
        ·
          have aW : A gW := (hI.waits.at_ _ rfl).1.1
          have hWR : gW ≠ R := (hI.waits.at_ _ rfl).2
          replace hI := hI.mono (S' := fun x => (A x ∨ w.heap.size ≤ x) ∧ x ≠ R) (fun x hx => ⟨.inl hx.1.1, hx.2⟩)
          refine WL.nil (WX.then_normal (WC.cond_true rfl (WC.seq (WC.region (WL.move rfl rfl (WL.move rfl rfl (WL.nilCheck rfl rfl (?_))))))))
          refine WL.fieldAddr (fld_72_1) rfl rfl (?_)
          have hjl := (List.getElem?_eq_some_iff.1 hxj).1
          refine WL.storeF (e := ewr) (ys := ws.set j (x.1, ⟨some ⟨gq, 0, none⟩, cq, r.xs.set (n % 128).toNat (kk ^^^ B8 (1 + n / 128 % 255))⟩)) Try.sizeOf30 hI.waits rfl (show _ = some (Value.slice (some ⟨gq, 0, none⟩) (r.xs.set (n % 128).toNat (kk ^^^ B8 (1 + n / 128 % 255))).length cq) from by rw [List.length_set]; rfl) rfl (by show 0 + j * 3 + 2 + 1 ≤ ws.length * 3; omega) (List.length_set ..) (wr_set hxj ⟨some ⟨gq, 0, none⟩, cq, r.xs.set (n % 128).toNat (kk ^^^ B8 (1 + n / 128 % 255))⟩) ?_
          intro w8 z8 hW8 k8
          have hI8 := hI.setWaits hW8 k8 (fun b hb => ⟨_, rfl, hb⟩) (fun p hp => by
            rcases List.mem_or_eq_of_mem_set hp with h3 | h3
            ·
              exact .inl ⟨p, h3, rfl⟩
            ·
              right
              rw [h3]
              exact hqS)
          have zs_k8 := k8.size
          replace hw := hw.chg k8 (by first | (intro x h1 h2; exact h2) | (intro x h0 h1 h2; exact hS x h1 h2) | (intro x h0 h1 h2; have h3 : _ = _ := h2; subst h3; exact hSR h1.1) | (intro x h1 h2; have h3 : _ = _ := h2; subst h3; assumption) | (intro x h1 h2; have h3 : _ = _ := h2; exfalso; omega) | (intro b h1 h2 h3; have h4 : _ = _ := h3; (try dsimp only at h2); exfalso; omega) | (intro h1; have h2 : _ = _ := h1; exfalso; omega) | (intros; exfalso; (try dsimp only at *); omega) | (intro b h1 h2 h3; exfalso; have h4 := h3.2; (try dsimp only at *); omega) | (intro h1; exfalso; have h4 := h1.2; (try dsimp only at *); omega) | (intro x h1 h2; exfalso; have h4 := h2.2; (try dsimp only at *); omega) | (intro x h1 h2; exact ⟨_, rfl, h2⟩) | (intro x h1 h2; exact h2.1) | (intro x h1 h2; rcases h2.1 with h3 | h3; exact h3; exfalso; omega) | (intro x h1 h2; rcases h2 with h3 | h3; exact h3; exfalso; omega))
          replace hB := hB.chg k8 (by first | (intro x h1 h2; exact h2) | (intro x h0 h1 h2; exact hS x h1 h2) | (intro x h0 h1 h2; have h3 : _ = _ := h2; subst h3; exact hSR h1.1) | (intro x h1 h2; have h3 : _ = _ := h2; subst h3; assumption) | (intro x h1 h2; have h3 : _ = _ := h2; exfalso; omega) | (intro b h1 h2 h3; have h4 : _ = _ := h3; (try dsimp only at h2); exfalso; omega) | (intro h1; have h2 : _ = _ := h1; exfalso; omega) | (intros; exfalso; (try dsimp only at *); omega) | (intro b h1 h2 h3; exfalso; have h4 := h3.2; (try dsimp only at *); omega) | (intro h1; exfalso; have h4 := h1.2; (try dsimp only at *); omega) | (intro x h1 h2; exfalso; have h4 := h2.2; (try dsimp only at *); omega) | (intro x h1 h2; exact ⟨_, rfl, h2⟩) | (intro x h1 h2; exact h2.1) | (intro x h1 h2; rcases h2.1 with h3 | h3; exact h3; exfalso; omega) | (intro x h1 h2; rcases h2 with h3 | h3; exact h3; exfalso; omega))
          refine WL.nil (WX.then_normal (WC.seq (WC.region (WL.assign rfl rfl (WL.nil (WX.then_normal (WC.ret (?_))))))))
          refine WX.then_ret (?_)
          refine WX.ret1 (.inl rfl) Try.results19 rfl ?_
          first
            | (have hh : ¬ inS s d a := h12
               have e0 : rotE s d a n = 1 := by simp [rotE, hh]
               rw [e0]
               exact ⟨_, rfl, rfl, h.mono (fun x hx => .inl hx.1), hw⟩)
            | (have hh : n < 0 := h20
               have e0 : rotE s d a n = 1 := by simp [rotE, hh]
               rw [e0]
               exact ⟨_, rfl, rfl, h.mono (fun x hx => .inl hx.1), hw⟩)
            | (have hh : goneS s d = true := hg
               have hh2 : ¬ n < 0 := by omega
               have e0 : rotE s d a n = 3 := by simp [rotE, hh, hh2, h12]
               rw [e0]
               exact ⟨_, rfl, rfl, h.mono (fun x hx => .inl hx.1), hw⟩)
            | (have hh : ws[j]? = some x := hxj
               have hh2 : ¬ n < 0 := by omega
               have e0 : rotE s d a n = 0 := by simp [rotE, hg, hh2, h12]
               rw [e0, if_pos rfl]
               have e1 : rotS s (d, a) n = { s with waits := putW s.waits (d, a) (rotB (heldS s (d, a)) n) } := by
                 unfold rotS
                 rw [hws, xsm_newV, newV_some hxj hxp hno]
                 rfl
               rw [e1] at hrok ⊢
               refine ⟨_, rfl, rfl, ⟨.inl aR, hrok, m, ga, gc, _, wc, _, ls, Eq.mp (congrArg (Blk _ R 66) ?_) hB, hI8.mono (fun x hx => hx.1), hls, ?_⟩, hw⟩
               ·
                 simp
               ·
                 show putW s.waits (d, a) (rotB (heldS s (d, a)) n) = _
                 rw [hws, ← hrb, hxp, ← putW_some hxj hxp hno, xsm_putW])
            | (have hh2 : ¬ n < 0 := by omega
               have e0 : rotE s d a n = 0 := by simp [rotE, hg, hh2, h12]
               rw [e0, if_pos rfl]
               have e1 : rotS s (d, a) n = { s with last := mput s.last (d, a) (rotB (heldS s (d, a)) n) } := by
                 unfold rotS
                 rw [hws, xsm_newV, newV_none hno]
                 rfl
               rw [e1] at hrok ⊢
               refine ⟨_, rfl, rfl, ⟨.inl aR, hrok, m, ga, gc, _, wc, _, _, hB, hI9.mono (fun x hx => hx.1), ?_, hws⟩, hw⟩
               show mput s.last (d, a) (rotB (heldS s (d, a)) n) = _
               rw [hls, ← hrb, xsm_put])
      ·
        refine WL.assign rfl rfl (WL.nil (WX.then_normal (WC.cond_true rfl (WC.seq (WC.region (WL.assign rfl rfl (WL.nil (?_))))))))
        refine WX.then_normal (WC.ret (WX.block_ret (WX.then_ret (?_))))
        refine WX.ret1 (.inl rfl) Try.results19 rfl ?_
        first
          | (have hh : ¬ inS s d a := h12
             have e0 : rotE s d a n = 1 := by simp [rotE, hh]
             rw [e0]
             exact ⟨_, rfl, rfl, h.mono (fun x hx => .inl hx.1), hw⟩)
          | (have hh : n < 0 := h20
             have e0 : rotE s d a n = 1 := by simp [rotE, hh]
             rw [e0]
             exact ⟨_, rfl, rfl, h.mono (fun x hx => .inl hx.1), hw⟩)
          | (have hh : goneS s d = true := hg
             have hh2 : ¬ n < 0 := by omega
             have e0 : rotE s d a n = 3 := by simp [rotE, hh, hh2, h12]
             rw [e0]
             exact ⟨_, rfl, rfl, h.mono (fun x hx => .inl hx.1), hw⟩)
          | (have hh : ws[j]? = some x := hxj
             have hh2 : ¬ n < 0 := by omega
             have e0 : rotE s d a n = 0 := by simp [rotE, hg, hh2, h12]
             rw [e0, if_pos rfl]
             have e1 : rotS s (d, a) n = { s with waits := putW s.waits (d, a) (rotB (heldS s (d, a)) n) } := by
               unfold rotS
               rw [hws, xsm_newV, newV_some hxj hxp hno]
               rfl
             rw [e1] at hrok ⊢
             refine ⟨_, rfl, rfl, ⟨.inl aR, hrok, m, ga, gc, _, wc, _, ls, Eq.mp (congrArg (Blk _ R 66) ?_) hB, hI8.mono (fun x hx => hx.1), hls, ?_⟩, hw⟩
             ·
               simp
             ·
               show putW s.waits (d, a) (rotB (heldS s (d, a)) n) = _
               rw [hws, ← hrb, hxp, ← putW_some hxj hxp hno, xsm_putW])
          | (have hh2 : ¬ n < 0 := by omega
             have e0 : rotE s d a n = 0 := by simp [rotE, hg, hh2, h12]
             rw [e0, if_pos rfl]
             have e1 : rotS s (d, a) n = { s with last := mput s.last (d, a) (rotB (heldS s (d, a)) n) } := by
               unfold rotS
               rw [hws, xsm_newV, newV_none hno]
               rfl
             rw [e1] at hrok ⊢
             refine ⟨_, rfl, rfl, ⟨.inl aR, hrok, m, ga, gc, _, wc, _, _, hB, hI9.mono (fun x hx => hx.1), ?_, hws⟩, hw⟩
             show mput s.last (d, a) (rotB (heldS s (d, a)) n) = _
             rw [hls, ← hrb, xsm_put])
  ·
    rw [show decide (0 ≤ d ∧ d < (s.dn : Int) ∧ 0 ≤ a ∧ a < (s.sn : Int)) = false from decide_eq_false h12]
    refine WL.not rfl rfl (WL.move rfl rfl (WL.pass rfl rfl rfl rfl (WL.pass rfl rfl rfl rfl (WL.pickT rfl rfl rfl (WL.assign rfl rfl (WL.nil (WX.then_normal (?_))))))))
    refine WC.cond_true rfl (WC.seq (WC.region (WL.assign rfl rfl (WL.nil (WX.then_normal (WC.ret (WX.block_ret (?_))))))))
    refine WX.then_ret (?_)
    refine WX.ret1 (.inl rfl) Try.results19 rfl ?_
    first
      | (have hh : ¬ inS s d a := h12
         have e0 : rotE s d a n = 1 := by simp [rotE, hh]
         rw [e0]
         exact ⟨_, rfl, rfl, h.mono (fun x hx => .inl hx.1), hw⟩)
      | (have hh : n < 0 := h20
         have e0 : rotE s d a n = 1 := by simp [rotE, hh]
         rw [e0]
         exact ⟨_, rfl, rfl, h.mono (fun x hx => .inl hx.1), hw⟩)
      | (have hh : goneS s d = true := hg
         have hh2 : ¬ n < 0 := by omega
         have e0 : rotE s d a n = 3 := by simp [rotE, hh, hh2, h12]
         rw [e0]
         exact ⟨_, rfl, rfl, h.mono (fun x hx => .inl hx.1), hw⟩)
      | (have hh : ws[j]? = some x := hxj
         have hh2 : ¬ n < 0 := by omega
         have e0 : rotE s d a n = 0 := by simp [rotE, hg, hh2, h12]
         rw [e0, if_pos rfl]
         have e1 : rotS s (d, a) n = { s with waits := putW s.waits (d, a) (rotB (heldS s (d, a)) n) } := by
           unfold rotS
           rw [hws, xsm_newV, newV_some hxj hxp hno]
           rfl
         rw [e1] at hrok ⊢
         refine ⟨_, rfl, rfl, ⟨.inl aR, hrok, m, ga, gc, _, wc, _, ls, Eq.mp (congrArg (Blk _ R 66) ?_) hB, hI8.mono (fun x hx => hx.1), hls, ?_⟩, hw⟩
         ·
           simp
         ·
           show putW s.waits (d, a) (rotB (heldS s (d, a)) n) = _
           rw [hws, ← hrb, hxp, ← putW_some hxj hxp hno, xsm_putW])
      | (have hh2 : ¬ n < 0 := by omega
         have e0 : rotE s d a n = 0 := by simp [rotE, hg, hh2, h12]
         rw [e0, if_pos rfl]
         have e1 : rotS s (d, a) n = { s with last := mput s.last (d, a) (rotB (heldS s (d, a)) n) } := by
           unfold rotS
           rw [hws, xsm_newV, newV_none hno]
           rfl
         rw [e1] at hrok ⊢
         refine ⟨_, rfl, rfl, ⟨.inl aR, hrok, m, ga, gc, _, wc, _, _, hB, hI9.mono (fun x hx => hx.1), ?_, hws⟩, hw⟩
         show mput s.last (d, a) (rotB (heldS s (d, a)) n) = _
         rw [hls, ← hrb, xsm_put])
end Go.Proofs.Ytdjlfbadcijjaaa
