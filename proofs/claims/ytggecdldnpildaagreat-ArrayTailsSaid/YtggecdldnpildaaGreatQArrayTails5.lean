import Derived.Test.YtggecdldnpildaaGreatQArrayTails4
namespace Go.Proofs.YtggecdldnpildaaGreat
open Go.RowKit Go.HL
set_option maxRecDepth 100000

theorem Blt.fin {rs ms : List Rw} {rgt : List UInt8} (h : Blt rs ms rgt rs.length) : (∀ i j, i < rs.length → j < rs.length → fn (mx ms) i j = fn (mx rs) i j) ∧ (∀ i, i < rs.length → fn (mx ms) i rs.length = rgt.getD i 0) ∧ ∀ q ∈ ms, q.xs.length = rs.length + 1 := by
  have key : ∀ i, i < rs.length → ∃ (r q : Rw) (y : UInt8), rs[i]? = some r ∧ ms[i]? = some q ∧ rgt[i]? = some y ∧ q.xs = r.xs ++ [y] ∧ r.xs.length = rs.length := fun i hi => by
    have h1 : rs[i]? = some (rs[i]'hi) := List.getElem?_eq_getElem hi
    have h2 : ms[i]? = some (ms[i]'(by rw [h.len]; exact hi)) := List.getElem?_eq_getElem _
    obtain ⟨y, h3, h4, h5⟩ := h.row i _ _ h1 h2
    exact ⟨_, _, y, h1, h2, h3, h4, h5⟩
  refine ⟨fun i j hi hj => ?_, fun i hi => ?_, fun q hq => ?_⟩
  · obtain ⟨r, q, y, h1, h2, h3, h4, h5⟩ := key i hi
    rw [fn_mx h2, fn_mx h1, h4, List.getD_eq_getElem?_getD, List.getElem?_append_left (by omega), ← List.getD_eq_getElem?_getD]
  · obtain ⟨r, q, y, h1, h2, h3, h4, h5⟩ := key i hi
    rw [fn_mx h2, h4, List.getD_eq_getElem?_getD, List.getElem?_append_right (by omega), h5, Nat.sub_self]
    have e : rgt.getD i 0 = y := by rw [List.getD_eq_getElem?_getD, h3]; rfl
    rw [e]
    rfl
  · obtain ⟨i, hi, rfl⟩ := List.getElem_of_mem hq
    obtain ⟨r, q, y, h1, h2, h3, h4, h5⟩ := key i (by rw [← h.len]; exact hi)
    rw [List.getElem?_eq_getElem hi] at h2
    injection h2 with h2
    rw [h2, h4]
    simp [h5]
set_option maxHeartbeats 16000000 in
theorem Solve_calls {w : World} {gf cr c : Nat} {ar ao : Option Addr} {rgt : List UInt8} {rs : List Rw} (hF : Fld w gf) (h : RS (fun b => b ≠ gf) w ao c rs) (hr : RSl (fun b => b ≠ gf) w eb ar cr rgt) (hl1 : rs.length ≤ 9223372036854775807) (hl2 : rgt.length ≤ 9223372036854775807) :
    Calls Tryz.prog 101 [.pointer (some ⟨gf, 0, none⟩), .slice ao rs.length c, .slice ar rgt.length cr].toArray w (Ret fun v w' => (∃ ao2 c2 out e, v = .tuple #[.slice ao2 out.length c2, vi e] ∧ SolR (mx rs) rgt out e ∧ Row (w.heap.size ≤ ·) w' 5 eb ao2 c2 out) ∧ Fld w' gf ∧ Chg (fun x => x = gf) w w') := by
  have hw := Chg.refl (fun x => x = gf) w
  have lgf := hF.lt
  have hsh : ∀ {P : Prop}, (ShapeOk (mx rs) rgt → P) → (¬ P → ¬ ShapeOk (mx rs) rgt) := fun hp hn hs => hn (hp hs)
  have hml := mx_len rs
  replace hr := hr.lt
  replace h := (⟨h.outer.lt, fun r hr => (h.inner r hr).lt⟩ : RS (fun b => b ≠ gf ∧ b < w.heap.size) w ao c rs)
  refine Calls.of_WC Tryz.func101 rfl Tryz.ntmps101 (by simp) ?_
  refine WC.seq (WC.region (WL.assign rfl rfl (WL.assign rfl rfl (WL.nil (WX.then_normal (WC.seq (WC.region (?_))))))))
  refine WL.move rfl rfl (WL.len Tryz.underlying87 rfl rfl (WL.assign rfl rfl (WL.nil (WX.then_normal (WC.seq (WC.seq (WC.region (?_))))))))
  refine WL.move rfl rfl (?_)
  refine WL.lss? rfl rfl rfl (fun h22 => ?_) (fun h22 => ?_)
  ·
    refine WL.move rfl rfl (WL.pass rfl rfl rfl rfl (WL.pass rfl rfl rfl rfl (WL.pickT rfl rfl rfl (WL.move rfl rfl (WL.pass rfl rfl rfl rfl (WL.pass rfl rfl rfl rfl (WL.pass rfl rfl rfl rfl (?_))))))))
    refine WL.pass rfl rfl rfl rfl (WL.pickT rfl rfl rfl (WL.nil (WX.then_normal (WC.cond_true rfl (WC.seq (WC.region (WL.assign rfl rfl (?_))))))))
    refine WL.assign rfl rfl (WL.nil (WX.then_normal (WC.ret (WX.then_ret (?_)))))
    refine WX.ret2 (.inl rfl) Tryz.results101 rfl rfl ?_
    refine ⟨_, rfl, ⟨none, 0, [], 1, rfl, .inl ⟨fun hs => ?_, rfl, rfl⟩, Row.nil _ _ _ _⟩, hF, hw⟩
    have hs1 := hs.1
    have hs2 := hs.2.1
    rw [hml] at hs1 hs2
    omega
  ·
    refine WL.move rfl rfl (WL.want rfl rfl rfl (WL.move rfl rfl (WL.want rfl rfl rfl (?_))))
    refine WL.gtr? rfl rfl rfl (fun h25 => ?_) (fun h25 => ?_)
    ·
      refine WL.pickF rfl rfl rfl (WL.move rfl rfl (WL.pass rfl rfl rfl rfl (WL.pass rfl rfl rfl rfl (WL.pass rfl rfl rfl rfl (WL.pass rfl rfl rfl rfl (WL.pickT rfl rfl rfl (WL.nil (?_))))))))
      refine WX.then_normal (WC.cond_true rfl (WC.seq (WC.region (WL.assign rfl rfl (WL.assign rfl rfl (WL.nil (WX.then_normal (?_))))))))
      refine WC.ret (WX.then_ret (?_))
      refine WX.ret2 (.inl rfl) Tryz.results101 rfl rfl ?_
      refine ⟨_, rfl, ⟨none, 0, [], 1, rfl, .inl ⟨fun hs => ?_, rfl, rfl⟩, Row.nil _ _ _ _⟩, hF, hw⟩
      have hs1 := hs.1
      have hs2 := hs.2.1
      rw [hml] at hs1 hs2
      omega
    ·
      refine WL.pickF rfl rfl rfl (WL.move rfl rfl (WL.want rfl rfl rfl (WL.move rfl rfl (WL.want rfl rfl rfl (WL.len Tryz.underlying26 rfl rfl (WL.want rfl rfl rfl (WL.move rfl rfl (?_))))))))
      refine WL.want rfl rfl rfl (?_)
      refine WL.neq? rfl rfl rfl (fun h31 => ?_) (fun h31 => ?_)
      ·
        refine WL.pickF rfl rfl rfl (WL.nil (WX.then_normal (WC.cond_true rfl (WC.seq (WC.region (WL.assign rfl rfl (WL.assign rfl rfl (?_))))))))
        refine WL.nil (WX.then_normal (WC.ret (WX.then_ret (?_))))
        refine WX.ret2 (.inl rfl) Tryz.results101 rfl rfl ?_
        refine ⟨_, rfl, ⟨none, 0, [], 1, rfl, .inl ⟨fun hs => ?_, rfl, rfl⟩, Row.nil _ _ _ _⟩, hF, hw⟩
        have hs1 := hs.1
        have hs2 := hs.2.1
        rw [hml] at hs1 hs2
        omega
      ·
        refine WL.pickF rfl rfl rfl (WL.nil (WX.then_normal (WC.cond_false rfl (WC.skip (WX.then_normal (WC.seq (WC.region (?_))))))))
        refine WL.assign rfl rfl (WL.nil (WX.then_normal (WC.seq (WC.seq (WC.region (WL.move rfl rfl (WL.len Tryz.underlying87 rfl rfl (?_))))))))
        refine WL.move rfl rfl (WL.nil (WX.then_normal (WC.block (?_))))
        have hbnd : (1 ≤ rs.length ∧ rs.length ≤ 8) ∧ rgt.length = rs.length := by omega
        refine WC.loop (σ := Nat × (Option Addr × Nat × Nat × List Nat × List Rw)) (fun q => [(0, .pointer (some ⟨gf, 0, none⟩)), (2, .slice ar rgt.length cr), (8, vi rs.length), (9, .slice q.2.1 q.2.2.2.2.2.length q.2.2.1), (33, .slice ao rs.length c), (34, vi rs.length), (35, vi (q.1 : Int))])
          (fun q w' => (q.1 ≤ rs.length ∧ Blt rs q.2.2.2.2.2 rgt q.1) ∧ AR w.heap.size w.heap.size q.2.2.2.1 w' 26 5 q.2.1 q.2.2.1 q.2.2.2.2.1 q.2.2.2.2.2 ∧ q.2.2.2.1 ≤ w'.heap.size ∧ w.heap.size ≤ q.2.2.2.1 ∧ Fld w' gf ∧ RS (fun b => b ≠ gf ∧ b < w.heap.size) w' ao c rs ∧ RSl (fun b => b ≠ gf ∧ b < w.heap.size) w' eb ar cr rgt ∧ Chg (fun x => x = gf) w w') (fun q => rs.length - q.1) (0, none, 0, w.heap.size, [], []) ⟨rfl, rfl, rfl, rfl, rfl, rfl, rfl, trivial⟩ ⟨⟨Nat.zero_le _, ⟨rfl, fun j r q _ hq => by simp at hq⟩⟩, AR.nil _ _ _ _ _ _, Nat.le_refl _, Nat.le_refl _, hF, h, hr, hw⟩ ?_
        clear hF h hr hw
        rintro ⟨i, am, cm, n1, gs, ms⟩ w1 ⟨⟨hi, hB⟩, hA, hn1, hwn, hF, h, hr, hw⟩
        simp only at hi hB hA hn1 hwn
        dsimp only
        refine WC.seq (WC.region (?_))
        refine WL.lss? rfl rfl rfl (fun h36 => ?_) (fun h36 => ?_)
        ·
          refine WL.nil (WX.then_normal (WC.seq (WC.cond_true rfl (WC.skip (WX.then_normal (WC.seq (WC.block (?_))))))))
          refine WC.seq (WC.region (WL.move rfl rfl (?_)))
          obtain ⟨r, hri⟩ : ∃ r, rs[i]? = some r := ⟨_, List.getElem?_eq_getElem (by omega)⟩
          refine WL.indexT (e := erow) Tryz.underlying87 Tryz.sizeOf26 h.outer rfl rfl ⟨hri, rfl⟩ rfl ?_
          intro bb oo hcc
          refine WL.load Tryz.isAgg26 rfl (hcc 0 _ rfl) rfl ?_
          refine WL.assign rfl rfl (WL.assign rfl rfl (WL.nil (WX.then_normal (WC.seq (WC.seq (WC.region (WL.move rfl rfl (?_))))))))
          refine WL.len Tryz.underlying26 rfl rfl (WL.move rfl rfl (?_))
          refine WL.neq? rfl rfl rfl (fun h43 => ?_) (fun h43 => ?_)
          ·
            refine WL.nil (WX.then_normal (WC.cond_true rfl (WC.seq (WC.region (WL.assign rfl rfl (WL.assign rfl rfl (WL.nil (?_))))))))
            refine WX.then_normal (WC.ret (WX.then_ret (WX.block_ret (WX.then_ret (WX.then_ret (WX.block_ret (WX.then_ret (?_))))))))
            refine WX.ret2 (.inl rfl) Tryz.results101 rfl rfl ?_
            refine ⟨_, rfl, ⟨none, 0, [], 1, rfl, .inl ⟨fun hs => ?_, rfl, rfl⟩, Row.nil _ _ _ _⟩, hF, hw⟩
            have hs3 := hs.2.2 r.xs (List.mem_map.2 ⟨r, List.mem_of_getElem? hri, rfl⟩)
            rw [hml] at hs3
            omega
          ·
            refine WL.nil (WX.then_normal (WC.cond_false rfl (WC.skip (WX.then_normal (WC.region (WL.move rfl rfl (WL.move rfl rfl (?_))))))))
            refine WL.move rfl rfl (WL.move rfl rfl (WL.move rfl rfl (WL.add64 rfl rfl (by omega) rfl (?_))))
            obtain ⟨y, hyi⟩ : ∃ y, rgt[i]? = some y := ⟨_, List.getElem?_eq_getElem (by omega)⟩
            have hrl : r.xs.length = rs.length := by omega
            refine WL.slice (l := i) (h := i + 1) Tryz.underlying26 Tryz.sizeOf5 hr rfl (.inl rfl) (.inl rfl) (by constructor <;> omega) rfl ?_
            intro a_qc c_qc qc n_qc
            have ecut : (rgt.take (i + 1)).drop i = [y] := by
              rw [List.take_add_one, hyi, List.drop_append_of_le_length (by simp; omega), List.drop_of_length_le (by rw [List.length_take]; exact Nat.min_le_left _ _)]
              rfl
            rw [ecut] at qc ⊢
            refine WL.build (e := erow) [r, ⟨a_qc, c_qc, [y]⟩] Tryz.underlying87 Tryz.sizeOf26 Tryz.zeroValue26 rfl rfl rfl (by simp [Value.cells] <;> rfl) (by decide) rfl ?_
            intro a_qb w_qb qb l_qb z_qb k_qb
            have zs_k_qb := k_qb.size
            replace hA := hA.pure k_qb
            replace hF := hF.pure k_qb
            replace h := h.pure k_qb
            replace hr := hr.pure k_qb
            replace hw := hw.pure k_qb
            replace qc := qc.pure k_qb
            have hrow := h.at hri
            have hRS : RS (fun _ => True) _ a_qb _ [r, ⟨a_qc, c_qc, [y]⟩] := ⟨qb.rsl.mono (fun _ _ => trivial), fun z hz => by
              rcases List.mem_cons.1 hz with e | e
              ·
                rw [e]; exact hrow.mono (fun _ _ => trivial)
              ·
                rw [List.mem_singleton.1 e]; exact qc.mono (fun _ _ => trivial)⟩
            refine WL.call eg_105 rfl rfl (concat_calls hRS ⟨by omega, by omega⟩ (by show 1 ≤ 10000; decide)) ?_
            rintro v w3 ⟨⟨g3, c3, rfl, hR3, hg3⟩, k3⟩
            have zk3 := k3.size
            have zs_k3 := k3.size
            replace hA := hA.pure k3
            replace hF := hF.pure k3
            replace h := h.pure k3
            replace hr := hr.pure k3
            replace hw := hw.pure k3
            refine WL.build (e := erow) [⟨some ⟨g3, 0, none⟩, c3, r.xs ++ [y]⟩] Tryz.underlying87 Tryz.sizeOf26 Tryz.zeroValue26 rfl rfl rfl (by simp [Value.cells] <;> rfl) (by decide) rfl ?_
            intro a_qr w_qr qr l_qr z_qr k_qr
            have zs_k_qr := k_qr.size
            replace hA := hA.pure k_qr
            replace hF := hF.pure k_qr
            replace h := h.pure k_qr
            replace hr := hr.pure k_qr
            replace hw := hw.pure k_qr
            replace hR3 := hR3.pure k_qr
            refine WL.append (e := erow) info_26 rfl Tryz.underlying87 rfl rfl (hA.outer.mono (S' := fun b => w.heap.size ≤ b) (fun b hb => hb.1)) (qr.rsl.src Tryz.underlying87) (by show (ms.length + 1) * 24 ≤ _ ∧ ms.length + 1 ≤ _; have := hB.len; constructor <;> omega) (fun b hb => by have := hw.size; omega) rfl ?_
            intro a4 c4 w4 hO4 g4 nn4
            have hA4 := hA.snoc (by omega) (by omega) hR3 (by omega) hO4 g4
            replace hF := hF.chg g4.chg (fun h3 => by have := h3.2; omega)
            replace hw := hw.chg g4.chg (fun x hx h3 => by have := h3.2; omega)
            replace hr := hr.chg g4.chg (fun b _ h2 h3 => by have := h2.2; have := h3.2; omega)
            replace h := h.chg g4.chg (fun b _ h2 h3 => by have := h2.2; have := h3.2; omega)
            have hB4 := hB.snoc (q := ⟨some ⟨g3, 0, none⟩, c3, r.xs ++ [y]⟩) hri hyi rfl hrl
            refine WL.assign rfl rfl (WL.nil (WX.block_normal (WX.then_normal (WC.region (WL.add64 rfl rfl (by omega) rfl (WL.move rfl rfl (WL.nil (?_))))))))
            first
              | exact WX.loop_next (i + 1, a4, c4, _, _, _) ⟨rfl, rfl, rfl, rfl, rfl, rfl, rfl, trivial⟩ ⟨⟨by show i + 1 ≤ _; omega, hB4⟩, hA4, Nat.le_refl _, hw.size, hF, h, hr, hw⟩ (by show rs.length - (i + 1) < rs.length - i; omega)
              | exact WX.loop_next (a + 1) ⟨rfl, rfl, rfl, rfl, rfl, rfl, rfl, trivial⟩ ⟨⟨by omega, by omega⟩, fun i h1 h2 => (by
                  rcases Nat.lt_or_ge i a with h3 | h3
                  ·
                    exact hz0 i h1 h3
                  ·
                    rw [show i = a by omega, hfx]; exact u8_zero h74), hA, hn1, hR, hw⟩ (by omega)
              | exact WX.loop_next (i + 1, ms.set i ⟨ri.ao, ri.cap, ys⟩) ⟨rfl, rfl, by show _ = some (Value.slice am (ms.set i ⟨ri.ao, ri.cap, ys⟩).length cm); rw [List.length_set]; rfl, rfl, rfl, rfl, rfl, rfl, trivial⟩ ⟨by show i + 1 ≤ _; omega, hA0.upd hgi hri hyl hC hr8, by show n1 ≤ _; have := hC.size; omega, ⟨by show (ms.set _ _).length = _; rw [List.length_set]; exact hmsl, fun z hz => by
                  rcases List.mem_or_eq_of_mem_set hz with h2 | h2
                  ·
                    exact hRl z h2
                  ·
                    rw [h2]; show ys.length = _; omega⟩, hG.add ⟨by omega, hik⟩ (by omega) x (fun p j hp => by
                  rw [fn_setr (by omega)]
                  by_cases e : p = i
                  ·
                    rw [if_pos e, if_pos e, e, fn_mx hri, fn_mx hrk]; exact hyv j
                  ·
                    rw [if_neg e, if_neg e]), ⟨by show fn (mx (ms.set _ _)) k k = 1; rw [fn_setr (by omega), if_neg (fun e => hik e.symm)]; exact h1k, fun p h1 h2 => (by
                  show fn (mx (ms.set _ _)) p k = 0
                  rw [fn_setr (by omega)]
                  by_cases e : p = i
                  ·
                    rw [if_pos e]
                    show ys.getD k 0 = 0
                    rw [hyv k, ← fn_mx hri, hfx, ← fn_mx hrk, h1k, one_mul', xor_self']
                  ·
                    rw [if_neg e]; exact hz1 p (by have h1 : p < i + 1 := h1; omega) h2)⟩, hR, hw⟩ (by show rs.length - (i + 1) < rs.length - i; omega)
              | (have hik : i = k := by omega
                 exact WX.loop_next (i + 1, ms) ⟨rfl, rfl, rfl, rfl, rfl, rfl, rfl, rfl, trivial⟩ ⟨by show i + 1 ≤ _; omega, hA, hn1, ⟨hmsl, hRl⟩, hG, ⟨h1k, fun p h1 h2 => hz1 p (by have h1 : p < i + 1 := h1; omega) h2⟩, hR, hw⟩ (by show rs.length - (i + 1) < rs.length - i; omega))
              | exact WX.loop_next (i + 1, out.set i x) ⟨rfl, rfl, rfl, rfl, rfl, trivial⟩ ⟨by show i + 1 ≤ _; omega, ⟨by show (out.set i x).length = _; rw [List.length_set]; exact hol, fun j hj => (by
                  show (out.set i x).getD j 0 = _
                  rw [List.getD_eq_getElem?_getD, List.getElem?_set]
                  by_cases e : i = j
                  ·
                    rw [if_pos e, if_pos (by omega), ← e, hfx]; rfl
                  ·
                    rw [if_neg e, ← List.getD_eq_getElem?_getD]
                    exact hov j (by have h1 : j < i + 1 := hj; omega))⟩, hA, hO7, hR, hw⟩ (by show rs.length - (i + 1) < rs.length - i; omega)
              | (have hin : i = rs.length := by omega
                 exact WX.loop_next (k + 1, gs2, ms) ⟨rfl, rfl, rfl, rfl, rfl, trivial⟩ ⟨by show k + 1 ≤ _; omega, hA, hn1, ⟨hmsl, hRl⟩, hG.next (fun p hp => by
                   by_cases e : p = k
                   ·
                     rw [if_pos e, e]; exact h1k
                   ·
                     rw [if_neg e]; exact hz1 p (by omega) e), hR, hw⟩ (by show rs.length - (k + 1) < rs.length - k; omega))
        ·
          refine WL.nil (WX.then_normal (WC.seq (WC.cond_false rfl (WC.exit (WX.then_exit (WX.then_exit (WX.block_here (?_))))))))
          refine WX.then_normal (WC.seq (WC.region (WL.move rfl rfl (?_))))
          have hil : i = rs.length := by omega
          subst hil
          obtain ⟨hRj, hRn, hRl⟩ := hB.fin
          have hmsl := hB.len
          have hSok : ShapeOk (mx rs) rgt := by
            refine ⟨by rw [hml]; exact hbnd.1, by rw [hml]; exact hbnd.2, fun z hz => ?_⟩
            obtain ⟨j, hj, rfl⟩ := List.getElem_of_mem hz
            have hj2 : j < rs.length := by rw [← hml]; exact hj
            obtain ⟨y, _, _, h5⟩ := hB.row j _ _ (List.getElem?_eq_getElem hj2) (List.getElem?_eq_getElem (show j < ms.length by omega))
            rw [hml, ← h5]
            simp [mx]
          refine WL.call eg_106 rfl rfl (ready_calls hF) ?_
          rintro v w3 ⟨rfl, hR, k3⟩
          replace hA := hA.chgN k3 (fun x h1 h2 => by have h3 : x = gf := h2; omega)
          replace hw := hw.chg k3 (fun x _ h1 => h1)
          have zk3 := k3.size
          refine WL.assign rfl rfl (WL.nil (WX.then_normal (WC.seq (WC.seq (WC.region (WL.move rfl rfl (WL.move rfl rfl (?_))))))))
          refine WL.nil (WX.then_normal (WC.block (?_)))
          obtain ⟨R, hRd⟩ : ∃ R, R = fn (mx ms) := ⟨_, rfl⟩
          rw [← hRd] at hRj hRn
          have hG0 : GE rs.length R (fn (mx ms)) 0 := by rw [← hRd]; exact GE.start _ _
          refine WC.loop (σ := Nat × List Nat × List Rw) (fun q => [(0, .pointer (some ⟨gf, 0, none⟩)), (8, vi rs.length), (9, .slice am q.2.2.length cm), (58, vi rs.length), (59, vi (q.1 : Int))])
            (fun q w' => q.1 ≤ rs.length ∧ AR w.heap.size w.heap.size n1 w' 26 5 am cm q.2.1 q.2.2 ∧ n1 ≤ w'.heap.size ∧ (q.2.2.length = rs.length ∧ ∀ z ∈ q.2.2, z.xs.length = rs.length + 1) ∧ GE rs.length R (fn (mx q.2.2)) q.1 ∧ Blk w' gf 146 FR ∧ Chg (fun x => x = gf) w w') (fun q => rs.length - q.1) (0, gs, ms) ⟨rfl, rfl, rfl, rfl, rfl, trivial⟩ ⟨Nat.zero_le _, hA, by show n1 ≤ _; omega, ⟨hmsl, hRl⟩, hG0, hR, hw⟩ ?_
          clear hA hR hw hG0 hRd hB hmsl hRl h hr hF hn1
          rintro ⟨k, gs, ms⟩ w1 ⟨hk, hA, hn1, ⟨hmsl, hRl⟩, hG, hR, hw⟩
          simp only at hk hA hmsl hRl hG
          dsimp only
          refine WC.seq (WC.region (?_))
          refine WL.lss? rfl rfl rfl (fun h60 => ?_) (fun h60 => ?_)
          ·
            refine WL.nil (WX.then_normal (WC.seq (WC.cond_true rfl (WC.skip (WX.then_normal (WC.seq (WC.block (?_))))))))
            refine WC.seq (WC.region (WL.move rfl rfl (WL.assign rfl rfl (WL.nil (WX.then_normal (WC.seq (WC.region (?_))))))))
            refine WL.move rfl rfl (WL.assign rfl rfl (WL.nil (WX.then_normal (WC.seq (?_)))))
            refine WC.cutG (σ := Nat) (fun a => [(0, .pointer (some ⟨gf, 0, none⟩)), (8, vi rs.length), (9, .slice am ms.length cm), (12, vi (k : Int)), (13, vi (a : Int)), (58, vi rs.length), (59, vi (k : Int))])
              (fun a w' => (k ≤ a ∧ a ≤ rs.length) ∧ (∀ i, k ≤ i → i < a → fn (mx ms) i k = 0) ∧ (a < rs.length → fn (mx ms) a k ≠ 0) ∧ AR w.heap.size w.heap.size n1 w' 26 5 am cm gs ms ∧ n1 ≤ w'.heap.size ∧ Blk w' gf 146 FR ∧ Chg (fun x => x = gf) w w') ?_ ?_
            rotate_left
            ·
              refine WC.block ?_
              refine WC.loop (σ := Nat) (fun a => [(0, .pointer (some ⟨gf, 0, none⟩)), (8, vi rs.length), (9, .slice am ms.length cm), (12, vi (k : Int)), (13, vi (a : Int)), (58, vi rs.length), (59, vi (k : Int))])
                (fun a w' => (k ≤ a ∧ a ≤ rs.length) ∧ (∀ i, k ≤ i → i < a → fn (mx ms) i k = 0) ∧ AR w.heap.size w.heap.size n1 w' 26 5 am cm gs ms ∧ n1 ≤ w'.heap.size ∧ Blk w' gf 146 FR ∧ Chg (fun x => x = gf) w w') (fun a => rs.length - a) k ⟨rfl, rfl, rfl, rfl, rfl, rfl, rfl, trivial⟩ ⟨⟨Nat.le_refl _, by omega⟩, fun i h1 h2 => by omega, hA, hn1, hR, hw⟩ ?_
              clear hA hR hw hn1
              rintro a w2 ⟨⟨hka, han⟩, hz0, hA, hn1, hR, hw⟩
              refine WC.seq (WC.seq (WC.region (WL.move rfl rfl (WL.move rfl rfl (?_)))))
              refine WL.lss? rfl rfl rfl (fun h65 => ?_) (fun h65 => ?_)
              ·
                refine WL.move rfl rfl (WL.want rfl rfl rfl (WL.move rfl rfl (WL.want rfl rfl rfl (WL.move rfl rfl (WL.want rfl rfl rfl (?_))))))
                obtain ⟨ra, hra⟩ : ∃ ra, ms[a]? = some ra := ⟨_, List.getElem?_eq_getElem (by omega)⟩
                obtain ⟨ga, hga⟩ : ∃ ga, gs[a]? = some ga := ⟨_, List.getElem?_eq_getElem (by have := hA.len; omega)⟩
                obtain ⟨ea, hrowa, -, -⟩ := hA.inner a ga ra hga hra
                have hral := hRl ra (List.mem_of_getElem? hra)
                obtain ⟨x, hx⟩ : ∃ x, ra.xs[k]? = some x := ⟨_, List.getElem?_eq_getElem (by omega)⟩
                have hfx : fn (mx ms) a k = x := by rw [fn_mx hra, List.getD_eq_getElem?_getD, hx]; rfl
                refine WL.indexT (e := erow) Tryz.underlying87 Tryz.sizeOf26 hA.outer.rsl rfl rfl ⟨hra, rfl⟩ rfl ?_
                intro bb oo hcc
                refine WL.want rfl rfl rfl (?_)
                refine WL.load Tryz.isAgg26 rfl (hcc 0 _ rfl) rfl ?_
                refine WL.want rfl rfl rfl (WL.move rfl rfl (WL.want rfl rfl rfl (?_)))
                refine WL.indexT (e := eb) Tryz.underlying26 Tryz.sizeOf5 hrowa.rsl (by show some (Value.slice ra.ao _ _) = _; rw [ea]) rfl ⟨hx, rfl⟩ rfl ?_
                intro bb2 oo2 hcc2
                refine WL.want rfl rfl rfl (?_)
                refine WL.load Tryz.isAgg5 rfl (hcc2 0 _ rfl) rfl ?_
                refine WL.want rfl rfl rfl (?_)
                refine WL.eql? rfl rfl rfl (fun h74 => ?_) (fun h74 => ?_)
                ·
                  refine WL.pickT rfl rfl rfl (WL.nil (WX.then_normal (WC.cond_true rfl (WC.skip (WX.then_normal (WC.block (WC.region (?_))))))))
                  refine WL.move rfl rfl (WL.add64 rfl rfl (by omega) rfl (WL.assign rfl rfl (WL.nil (WX.block_normal (?_)))))
                  first
                    | exact WX.loop_next (i + 1, a4, c4, _, _, _) ⟨rfl, rfl, rfl, rfl, rfl, rfl, rfl, trivial⟩ ⟨⟨by show i + 1 ≤ _; omega, hB4⟩, hA4, Nat.le_refl _, hw.size, hF, h, hr, hw⟩ (by show rs.length - (i + 1) < rs.length - i; omega)
                    | exact WX.loop_next (a + 1) ⟨rfl, rfl, rfl, rfl, rfl, rfl, rfl, trivial⟩ ⟨⟨by omega, by omega⟩, fun i h1 h2 => (by
                        rcases Nat.lt_or_ge i a with h3 | h3
                        ·
                          exact hz0 i h1 h3
                        ·
                          rw [show i = a by omega, hfx]; exact u8_zero h74), hA, hn1, hR, hw⟩ (by omega)
                    | exact WX.loop_next (i + 1, ms.set i ⟨ri.ao, ri.cap, ys⟩) ⟨rfl, rfl, by show _ = some (Value.slice am (ms.set i ⟨ri.ao, ri.cap, ys⟩).length cm); rw [List.length_set]; rfl, rfl, rfl, rfl, rfl, rfl, trivial⟩ ⟨by show i + 1 ≤ _; omega, hA0.upd hgi hri hyl hC hr8, by show n1 ≤ _; have := hC.size; omega, ⟨by show (ms.set _ _).length = _; rw [List.length_set]; exact hmsl, fun z hz => by
                        rcases List.mem_or_eq_of_mem_set hz with h2 | h2
                        ·
                          exact hRl z h2
                        ·
                          rw [h2]; show ys.length = _; omega⟩, hG.add ⟨by omega, hik⟩ (by omega) x (fun p j hp => by
                        rw [fn_setr (by omega)]
                        by_cases e : p = i
                        ·
                          rw [if_pos e, if_pos e, e, fn_mx hri, fn_mx hrk]; exact hyv j
                        ·
                          rw [if_neg e, if_neg e]), ⟨by show fn (mx (ms.set _ _)) k k = 1; rw [fn_setr (by omega), if_neg (fun e => hik e.symm)]; exact h1k, fun p h1 h2 => (by
                        show fn (mx (ms.set _ _)) p k = 0
                        rw [fn_setr (by omega)]
                        by_cases e : p = i
                        ·
                          rw [if_pos e]
                          show ys.getD k 0 = 0
                          rw [hyv k, ← fn_mx hri, hfx, ← fn_mx hrk, h1k, one_mul', xor_self']
                        ·
                          rw [if_neg e]; exact hz1 p (by have h1 : p < i + 1 := h1; omega) h2)⟩, hR, hw⟩ (by show rs.length - (i + 1) < rs.length - i; omega)
                    | (have hik : i = k := by omega
                       exact WX.loop_next (i + 1, ms) ⟨rfl, rfl, rfl, rfl, rfl, rfl, rfl, rfl, trivial⟩ ⟨by show i + 1 ≤ _; omega, hA, hn1, ⟨hmsl, hRl⟩, hG, ⟨h1k, fun p h1 h2 => hz1 p (by have h1 : p < i + 1 := h1; omega) h2⟩, hR, hw⟩ (by show rs.length - (i + 1) < rs.length - i; omega))
                    | exact WX.loop_next (i + 1, out.set i x) ⟨rfl, rfl, rfl, rfl, rfl, trivial⟩ ⟨by show i + 1 ≤ _; omega, ⟨by show (out.set i x).length = _; rw [List.length_set]; exact hol, fun j hj => (by
                        show (out.set i x).getD j 0 = _
                        rw [List.getD_eq_getElem?_getD, List.getElem?_set]
                        by_cases e : i = j
                        ·
                          rw [if_pos e, if_pos (by omega), ← e, hfx]; rfl
                        ·
                          rw [if_neg e, ← List.getD_eq_getElem?_getD]
                          exact hov j (by have h1 : j < i + 1 := hj; omega))⟩, hA, hO7, hR, hw⟩ (by show rs.length - (i + 1) < rs.length - i; omega)
                    | (have hin : i = rs.length := by omega
                       exact WX.loop_next (k + 1, gs2, ms) ⟨rfl, rfl, rfl, rfl, rfl, trivial⟩ ⟨by show k + 1 ≤ _; omega, hA, hn1, ⟨hmsl, hRl⟩, hG.next (fun p hp => by
                         by_cases e : p = k
                         ·
                           rw [if_pos e, e]; exact h1k
                         ·
                           rw [if_neg e]; exact hz1 p (by omega) e), hR, hw⟩ (by show rs.length - (k + 1) < rs.length - k; omega))
                ·
                  refine WL.pickT rfl rfl rfl (WL.nil (WX.then_normal (WC.cond_false rfl (WC.exit (WX.then_exit (WX.then_exit (WX.block_here (?_))))))))
                  exact WX.cutN a ⟨rfl, rfl, rfl, rfl, rfl, rfl, rfl, trivial⟩ ⟨⟨hka, han⟩, hz0, fun _ => by rw [hfx]; exact u8_ne h74, hA, hn1, hR, hw⟩
              ·
                refine WL.move rfl rfl (WL.pass rfl rfl rfl rfl (WL.pass rfl rfl rfl rfl (WL.pass rfl rfl rfl rfl (WL.pass rfl rfl rfl rfl (WL.pass rfl rfl rfl rfl (WL.pass rfl rfl rfl rfl (WL.pass rfl rfl rfl rfl (?_))))))))
                refine WL.pass rfl rfl rfl rfl (WL.pickF rfl rfl rfl (WL.nil (WX.then_normal (WC.cond_false rfl (WC.exit (WX.then_exit (WX.then_exit (?_))))))))
                refine WX.block_here (?_)
                exact WX.cutN a ⟨rfl, rfl, rfl, rfl, rfl, rfl, rfl, trivial⟩ ⟨⟨hka, han⟩, hz0, fun h => by omega, hA, hn1, hR, hw⟩
            ·
              clear hA hR hw hn1
              rintro a w2 ⟨⟨hka, han⟩, hz0, hpv, hA, hn1, hR, hw⟩
              refine WX.then_normal (WC.seq (WC.seq (WC.region (WL.move rfl rfl (WL.move rfl rfl (?_))))))
              refine WL.eql? rfl rfl rfl (fun h80 => ?_) (fun h80 => ?_)
              ·
                refine WL.nil (WX.then_normal (WC.cond_true rfl (WC.seq (WC.region (WL.assign rfl rfl (WL.assign rfl rfl (WL.nil (?_))))))))
                refine WX.then_normal (WC.ret (WX.then_ret (WX.block_ret (WX.then_ret (WX.then_ret (WX.block_ret (WX.then_ret (?_))))))))
                refine WX.ret2 (.inl rfl) Tryz.results101 rfl rfl ?_
                have han2 : a = rs.length := by omega
                obtain ⟨y, ⟨j, hj, hy⟩, hK⟩ := hG.miss (by omega) (fun i h1 h2 => hz0 i h1 (by omega))
                exact ⟨_, rfl, ⟨none, 0, [], 7, rfl, .inr (.inr ⟨hSok, rfl, rfl, y, ⟨j, by rw [hml]; exact hj, hy⟩, by rw [hml]; exact fun i hi => (by
                  rw [← hK i hi]
                  exact sumF_cong (fun j hj => by rw [hRj i j hi hj]))⟩), Row.nil _ _ _ _⟩, .inr hR, hw⟩
              ·
                refine WL.nil (WX.then_normal (WC.cond_false rfl (WC.skip (WX.then_normal (WC.seq (?_))))))
                have hal : a < rs.length := by omega
                have hpa := hpv hal
                obtain ⟨ra, hra⟩ : ∃ ra, ms[a]? = some ra := ⟨_, List.getElem?_eq_getElem (by omega)⟩
                obtain ⟨ga, hga⟩ : ∃ ga, gs[a]? = some ga := ⟨_, List.getElem?_eq_getElem (by have := hA.len; omega)⟩
                obtain ⟨rk, hrk⟩ : ∃ rk, ms[k]? = some rk := ⟨_, List.getElem?_eq_getElem (by omega)⟩
                obtain ⟨gk, hgk⟩ : ∃ gk, gs[k]? = some gk := ⟨_, List.getElem?_eq_getElem (by have := hA.len; omega)⟩
                obtain ⟨go, hgo⟩ := hA.outer.place0 (j := k) (by omega)
                have hOu : Row (fun x => w.heap.size ≤ x ∧ x < n1) w2 26 erow (some ⟨go, 0, none⟩) cm ms := by rw [← hgo]; exact hA.outer
                have hgol : w.heap.size ≤ go ∧ go < n1 := hA.outer.at_ _ hgo
                have hC := Chg.refl (fun b => b = go) w2
                have hA0 := hA
                refine WC.drawM (fun b => b = go) [0, 1, 2, 3, 4, 5, 6, 8, 9, 10, 12, 14] [7, 11, 13, 15] mixed rfl rfl (fun wd_1 kd_1 zd_1 => ?_)
                have zs_kd_1 := kd_1.size
                replace hR := hR.pure kd_1
                replace hw := hw.pure kd_1
                replace hOu := hOu.pure kd_1
                replace hC := hC.pure kd_1
                apply DQT.step (E' := [(9, _)])
                case ho => rfl
                case hs => exact ⟨rfl, trivial⟩
                case hk => rfl
                case h1 =>
                  intro wq_3 kq_3
                  refine WL.move rfl rfl (?_)
                  refine WL.nil ?_
                  exact WX.one ⟨rfl, by exact Chg.refl _ _⟩
                apply DQT.step (E' := [(12, _)])
                case ho => rfl
                case hs => exact ⟨rfl, trivial⟩
                case hk => rfl
                case h1 =>
                  intro wq_4 kq_4
                  refine WL.move rfl rfl (?_)
                  refine WL.nil ?_
                  exact WX.one ⟨rfl, by exact Chg.refl _ _⟩
                apply DQT.step (E' := [(9, _)])
                case ho => rfl
                case hs => exact ⟨rfl, trivial⟩
                case hk => rfl
                case h1 =>
                  intro wq_5 kq_5
                  refine WL.move rfl rfl (?_)
                  refine WL.nil ?_
                  exact WX.one ⟨rfl, by exact Chg.refl _ _⟩
                apply DQT.step (E' := [(13, _)])
                case ho => rfl
                case hs => exact ⟨rfl, trivial⟩
                case hk => rfl
                case h1 =>
                  intro wq_6 kq_6
                  refine WL.move rfl rfl (?_)
                  refine WL.nil ?_
                  exact WX.one ⟨rfl, by exact Chg.refl _ _⟩
                apply DQT.step (E' := [(9, _)])
                case ho => rfl
                case hs => exact ⟨rfl, trivial⟩
                case hk => rfl
                case h1 =>
                  intro wq_7 kq_7
                  refine WL.move rfl rfl (?_)
                  refine WL.nil ?_
                  exact WX.one ⟨rfl, by exact Chg.refl _ _⟩
                apply DQT.step (E' := [(13, _)])
                case ho => rfl
                case hs => exact ⟨rfl, trivial⟩
                case hk => rfl
                case h1 =>
                  intro wq_8 kq_8
                  refine WL.move rfl rfl (?_)
                  refine WL.nil ?_
                  exact WX.one ⟨rfl, by exact Chg.refl _ _⟩
                apply DQT.step (E' := [(85, _), (86, _)])
                case ho => rfl
                case hs => exact ⟨rfl, rfl, trivial⟩
                case hk => rfl
                case h1 =>
                  intro wq_9 kq_9
                  have zs_kq_9 := kq_9.size
                  refine WL.index (j := a) (sz := 1) Tryz.underlying87 Tryz.sizeOf26 (by show some (Value.slice am _ _) = some (Value.slice (some ⟨go, 0, none⟩) _ _); rw [hgo]) rfl rfl (by omega) rfl ?_
                  refine WL.nil ?_
                  exact WX.one ⟨rfl, by exact Chg.refl _ _⟩
                apply DQT.step (E' := [(9, _)])
                case ho => rfl
                case hs => exact ⟨rfl, trivial⟩
                case hk => rfl
                case h1 =>
                  intro wq_10 kq_10
                  refine WL.move rfl rfl (?_)
                  refine WL.nil ?_
                  exact WX.one ⟨rfl, by exact Chg.refl _ _⟩
                apply DQT.step (E' := [(12, _)])
                case ho => rfl
                case hs => exact ⟨rfl, trivial⟩
                case hk => rfl
                case h1 =>
                  intro wq_11 kq_11
                  refine WL.move rfl rfl (?_)
                  refine WL.nil ?_
                  exact WX.one ⟨rfl, by exact Chg.refl _ _⟩
                apply DQT.step (E' := [(89, _), (90, _)])
                case ho => rfl
                case hs => exact ⟨rfl, rfl, trivial⟩
                case hk => rfl
                case h1 =>
                  intro wq_12 kq_12
                  have zs_kq_12 := kq_12.size
                  refine WL.index (j := k) (sz := 1) Tryz.underlying87 Tryz.sizeOf26 (by show some (Value.slice am _ _) = some (Value.slice (some ⟨go, 0, none⟩) _ _); rw [hgo]) rfl rfl (by omega) rfl ?_
                  refine WL.nil ?_
                  exact WX.one ⟨rfl, by exact Chg.refl _ _⟩
                apply DQT.step (E' := [(81, _), (82, _)])
                case ho => rfl
                case hs => exact ⟨rfl, rfl, trivial⟩
                case hk => rfl
                case h1 =>
                  intro wq_13 kq_13
                  have zs_kq_13 := kq_13.size
                  refine WL.index (j := k) (sz := 1) Tryz.underlying87 Tryz.sizeOf26 (by show some (Value.slice am _ _) = some (Value.slice (some ⟨go, 0, none⟩) _ _); rw [hgo]) rfl rfl (by omega) rfl ?_
                  refine WL.nil ?_
                  exact WX.one ⟨rfl, by exact Chg.refl _ _⟩
                apply DQT.step (E' := [(83, _), (84, _)])
                case ho => rfl
                case hs => exact ⟨rfl, rfl, trivial⟩
                case hk => rfl
                case h1 =>
                  intro wq_14 kq_14
                  have zs_kq_14 := kq_14.size
                  refine WL.index (j := a) (sz := 1) Tryz.underlying87 Tryz.sizeOf26 (by show some (Value.slice am _ _) = some (Value.slice (some ⟨go, 0, none⟩) _ _); rw [hgo]) rfl rfl (by omega) rfl ?_
                  refine WL.nil ?_
                  exact WX.one ⟨rfl, by exact Chg.refl _ _⟩
                refine DQT.done (fun hd_2 => ?_)
                refine ⟨?_, ?_, trivial, trivial, trivial⟩
                refine DT.step [(87, _)] rfl ⟨rfl, trivial⟩ rfl (fun wq_15 kq_15 => ?_)
                have zs_kq_15 := kq_15.size
                replace hR := hR.pure kq_15
                replace hw := hw.pure kq_15
                replace hOu := hOu.pure kq_15
                replace hC := hC.pure kq_15
                replace hd_2 := hd_2.pure kq_15
                refine WL.load Tryz.isAgg26 rfl ((hOu.rsl.cellsAt hra) 0 _ rfl) rfl ?_
                refine WL.nil (WX.one ⟨hd_2, ?_⟩)
                refine ⟨?_, trivial, trivial, trivial⟩
                refine DT.step [(91, _)] rfl ⟨rfl, trivial⟩ rfl (fun wq_16 kq_16 => ?_)
                have zs_kq_16 := kq_16.size
                replace hR := hR.pure kq_16
                replace hw := hw.pure kq_16
                replace hOu := hOu.pure kq_16
                replace hC := hC.pure kq_16
                replace hd_2 := hd_2.pure kq_16
                refine WL.load Tryz.isAgg26 rfl ((hOu.rsl.cellsAt hrk) 0 _ rfl) rfl ?_
                refine WL.nil (WX.one ⟨hd_2, ?_⟩)
                refine ⟨?_, trivial, trivial⟩
                refine DT.step [(93, _), (88, _)] rfl ⟨rfl, rfl, trivial⟩ rfl (fun wq_17 kq_17 => ?_)
                have zs_kq_17 := kq_17.size
                replace hR := hR.pure kq_17
                replace hw := hw.pure kq_17
                replace hOu := hOu.pure kq_17
                replace hC := hC.pure kq_17
                replace hd_2 := hd_2.pure kq_17
                refine WL.storeRow (z := ra) k Tryz.sizeOf26 hOu rfl rfl rfl (by show 0 + k * 1 = k; omega) (by omega) rfl ?_
                intro w5 z5 hO5 k5
                have zs_k5 := k5.size
                replace hR := hR.chg k5 (by intro h1; have h2 : _ = _ := h1; exfalso; omega)
                replace hw := hw.chg k5 (by intro x h1 h2; have h3 : _ = _ := h2; exfalso; omega)
                replace hC := hC.chg k5 (by intro x h1 h2; exact h2)
                replace hd_2 := hd_2.chg k5 (by intro x h1 h2; exact h2)
                refine WL.nil (WX.one0 (v := undef) ⟨hd_2, ?_⟩)
                refine ⟨?_, trivial⟩
                refine DT.step [(94, _), (92, _)] rfl ⟨rfl, rfl, trivial⟩ rfl (fun wq_18 kq_18 => ?_)
                have zs_kq_18 := kq_18.size
                replace hR := hR.pure kq_18
                replace hw := hw.pure kq_18
                replace hC := hC.pure kq_18
                replace hd_2 := hd_2.pure kq_18
                replace hO5 := hO5.pure kq_18
                refine WL.storeRow (z := rk) a Tryz.sizeOf26 hO5 rfl rfl rfl (by show 0 + a * 1 = a; omega) (by rw [List.length_set]; omega) rfl ?_
                intro w6 z6 hO6 k6
                have zs_k6 := k6.size
                replace hR := hR.chg k6 (by intro h1; have h2 : _ = _ := h1; exfalso; omega)
                replace hw := hw.chg k6 (by intro x h1 h2; have h3 : _ = _ := h2; exfalso; omega)
                replace hC := hC.chg k6 (by intro x h1 h2; exact h2)
                replace hd_2 := hd_2.chg k6 (by intro x h1 h2; exact h2)
                refine WL.nil (WX.one0 (v := undef) ⟨hd_2, ?_⟩)
                refine DT.done (fun we_19 ke_19 => ?_) _
                have zs_ke_19 := ke_19.size
                replace hR := hR.pure ke_19
                replace hw := hw.pure ke_19
                replace hC := hC.pure ke_19
                replace hd_2 := hd_2.pure ke_19
                replace hO6 := hO6.pure ke_19
                rotate_left
                refine DT.step [(91, _)] rfl ⟨rfl, trivial⟩ rfl (fun wq_15 kq_15 => ?_)
                have zs_kq_15 := kq_15.size
                replace hR := hR.pure kq_15
                replace hw := hw.pure kq_15
                replace hOu := hOu.pure kq_15
                replace hC := hC.pure kq_15
                replace hd_2 := hd_2.pure kq_15
                refine WL.load Tryz.isAgg26 rfl ((hOu.rsl.cellsAt hrk) 0 _ rfl) rfl ?_
                refine WL.nil (WX.one ⟨hd_2, ?_⟩)
                refine ⟨?_, trivial, trivial, trivial⟩
                refine DT.step [(87, _)] rfl ⟨rfl, trivial⟩ rfl (fun wq_16 kq_16 => ?_)
                have zs_kq_16 := kq_16.size
                replace hR := hR.pure kq_16
                replace hw := hw.pure kq_16
                replace hOu := hOu.pure kq_16
                replace hC := hC.pure kq_16
                replace hd_2 := hd_2.pure kq_16
                refine WL.load Tryz.isAgg26 rfl ((hOu.rsl.cellsAt hra) 0 _ rfl) rfl ?_
                refine WL.nil (WX.one ⟨hd_2, ?_⟩)
                refine ⟨?_, trivial, trivial⟩
                refine DT.step [(93, _), (88, _)] rfl ⟨rfl, rfl, trivial⟩ rfl (fun wq_17 kq_17 => ?_)
                have zs_kq_17 := kq_17.size
                replace hR := hR.pure kq_17
                replace hw := hw.pure kq_17
                replace hOu := hOu.pure kq_17
                replace hC := hC.pure kq_17
                replace hd_2 := hd_2.pure kq_17
                refine WL.storeRow (z := ra) k Tryz.sizeOf26 hOu rfl rfl rfl (by show 0 + k * 1 = k; omega) (by omega) rfl ?_
                intro w5 z5 hO5 k5
                have zs_k5 := k5.size
                replace hR := hR.chg k5 (by intro h1; have h2 : _ = _ := h1; exfalso; omega)
                replace hw := hw.chg k5 (by intro x h1 h2; have h3 : _ = _ := h2; exfalso; omega)
                replace hC := hC.chg k5 (by intro x h1 h2; exact h2)
                replace hd_2 := hd_2.chg k5 (by intro x h1 h2; exact h2)
                refine WL.nil (WX.one0 (v := undef) ⟨hd_2, ?_⟩)
                refine ⟨?_, trivial⟩
                refine DT.step [(94, _), (92, _)] rfl ⟨rfl, rfl, trivial⟩ rfl (fun wq_18 kq_18 => ?_)
                have zs_kq_18 := kq_18.size
                replace hR := hR.pure kq_18
                replace hw := hw.pure kq_18
                replace hC := hC.pure kq_18
                replace hd_2 := hd_2.pure kq_18
                replace hO5 := hO5.pure kq_18
                refine WL.storeRow (z := rk) a Tryz.sizeOf26 hO5 rfl rfl rfl (by show 0 + a * 1 = a; omega) (by rw [List.length_set]; omega) rfl ?_
                intro w6 z6 hO6 k6
                have zs_k6 := k6.size
                replace hR := hR.chg k6 (by intro h1; have h2 : _ = _ := h1; exfalso; omega)
                replace hw := hw.chg k6 (by intro x h1 h2; have h3 : _ = _ := h2; exfalso; omega)
                replace hC := hC.chg k6 (by intro x h1 h2; exact h2)
                replace hd_2 := hd_2.chg k6 (by intro x h1 h2; exact h2)
                refine WL.nil (WX.one0 (v := undef) ⟨hd_2, ?_⟩)
                refine DT.done (fun we_19 ke_19 => ?_) _
                have zs_ke_19 := ke_19.size
                replace hR := hR.pure ke_19
                replace hw := hw.pure ke_19
                replace hC := hC.pure ke_19
                replace hd_2 := hd_2.pure ke_19
                replace hO6 := hO6.pure ke_19
                rotate_left
                all_goals
                  refine WX.then_normal (WC.seq (WC.region (WL.move rfl rfl (WL.move rfl rfl (WL.move rfl rfl (?_))))))
                  have hCm := hC.mono (M' := Eqb am) (fun b _ e => ⟨_, hgo, e⟩)
                  have hO7 := hO6
                  rw [← hgo] at hO7
                  have hA7 := hA0.swap hgk hga hrk hra hCm hO7
                  have hG7 := hG.swap (a := k) (b := a) ⟨Nat.le_refl _, by omega⟩ ⟨hka, hal⟩ (fun i j _ => fn_swap hrk hra i j)
                  obtain ⟨ms2, hms2⟩ : ∃ ms2, ms2 = (ms.set k ra).set a rk := ⟨_, rfl⟩
                  obtain ⟨gs2, hgs2⟩ : ∃ gs2, gs2 = (gs.set k ga).set a gk := ⟨_, rfl⟩
                  have hpk : fn (mx ms2) k k ≠ 0 := by
                    rw [hms2, fn_swap hrk hra]
                    unfold sg
                    rw [if_pos rfl]
                    exact hpa
                  have hl2 : ms2.length = rs.length := by rw [hms2]; simp [hmsl]
                  have hRl2 : ∀ z ∈ ms2, z.xs.length = rs.length + 1 := fun z hz => by
                    obtain ⟨i, hi⟩ := List.getElem?_of_mem hz
                    rw [hms2, swap_get hrk hra] at hi
                    exact hRl z (List.mem_of_getElem? hi)
                  have hk2 : ms2[k]? = some ra := by
                    rw [hms2, swap_get hrk hra]
                    unfold sg
                    rw [if_pos rfl]
                    exact hra
                  have hgk2 : gs2[k]? = some ga := by
                    rw [hgs2, swap_get hgk hga]
                    unfold sg
                    rw [if_pos rfl]
                    exact hga
                  have hml2 : ms2.length = ms.length := by omega
                  rw [← hms2, ← hgs2] at hA7
                  rw [← hms2] at hG7
                  obtain ⟨ek, hrowk, hgk3, hgk4⟩ := hA7.inner k ga ra hgk2 hk2
                  have hgal : w.heap.size ≤ ga := hA7.low k ga hgk2
                  have hral := hRl2 ra (List.mem_of_getElem? hk2)
                  obtain ⟨x, hx⟩ : ∃ x, ra.xs[k]? = some x := ⟨_, List.getElem?_eq_getElem (by omega)⟩
                  have hfx : fn (mx ms2) k k = x := by rw [fn_mx hk2, List.getD_eq_getElem?_getD, hx]; rfl
                  have hx0 : x ≠ 0 := by rw [← hfx]; exact hpk
                  refine WL.indexT (e := erow) Tryz.underlying87 Tryz.sizeOf26 hA7.outer.rsl (by show some (Value.slice am ms.length cm) = _; rw [hml2]) rfl ⟨hk2, rfl⟩ rfl ?_
                  intro bb oo hcc
                  refine WL.load Tryz.isAgg26 rfl (hcc 0 _ rfl) rfl ?_
                  refine WL.move rfl rfl (?_)
                  refine WL.indexT (e := eb) Tryz.underlying26 Tryz.sizeOf5 hrowk.rsl (by show some (Value.slice ra.ao _ _) = _; rw [ek]) rfl ⟨hx, rfl⟩ rfl ?_
                  intro bb2 oo2 hcc2
                  refine WL.load Tryz.isAgg5 rfl (hcc2 0 _ rfl) rfl ?_
                  refine WL.call eg_107 rfl rfl (invR_calls hR x) ?_
                  rintro v w7 ⟨rfl, k7⟩
                  rw [if_neg hx0]
                  have zs_k7 := k7.size
                  replace hR := hR.pure k7
                  replace hw := hw.pure k7
                  replace hA7 := hA7.pure k7
                  refine WL.move rfl rfl (WL.extract rfl rfl rfl (WL.extract rfl rfl rfl (WL.assign rfl rfl (WL.assign rfl rfl (WL.nil (WX.then_normal (WC.seq (?_))))))))
                  refine WC.seq (WC.region (WL.move rfl rfl (?_)))
                  refine WL.neqF rfl rfl rfl (by rfl) ?_
                  refine WL.nil (WX.then_normal (WC.cond_false rfl (WC.skip (WX.then_normal (WC.seq (WC.region (WL.move rfl rfl (?_))))))))
                  refine WL.move rfl rfl (WL.move rfl rfl (?_))
                  refine WL.indexT (e := erow) Tryz.underlying87 Tryz.sizeOf26 hA7.outer.rsl (by show some (Value.slice am ms.length cm) = _; rw [hml2]) rfl ⟨hk2, rfl⟩ rfl ?_
                  intro bb3 oo3 hcc3
                  refine WL.load Tryz.isAgg26 rfl (hcc3 0 _ rfl) rfl ?_
                  rw [ek]
                  refine WL.move rfl rfl (?_)
                  obtain ⟨-, hrowk8, -, -⟩ := hA7.inner k ga ra hgk2 hk2
                  have hinv : inv x ≠ 0 := fun e => by
                    have h1 := mul_inv hx0
                    rw [e, mul_zero_r] at h1
                    exact absurd h1 (by decide)
                  refine WL.call eg_108 rfl rfl (scale_calls hR hrowk8 (by omega) (by omega) (inv x)) ?_
                  rintro v w8 ⟨rfl, ⟨ys, hyl, hyv, hr8⟩, k8⟩
                  have zk8 := k8.size
                  have hA8 := hA7.upd hgk2 hk2 hyl k8 hr8
                  replace hR := hR.chg k8 (fun e => by have e2 : gf = ga := e; omega)
                  replace hw := hw.chg k8 (fun z hz e => by have e2 : z = ga := e; omega)
                  have hG8 := hG7.scale (m' := fn (mx (ms2.set k ⟨ra.ao, ra.cap, ys⟩))) hinv (by omega) (fun i j hi => by
                    rw [fn_setr (by omega)]
                    by_cases e : i = k
                    ·
                      rw [if_pos e, if_pos e, e, fn_mx hk2]; exact hyv j
                    ·
                      rw [if_neg e, if_neg e])
                  have h1k : fn (mx (ms2.set k ⟨ra.ao, ra.cap, ys⟩)) k k = 1 := by
                    rw [fn_setr (by omega), if_pos rfl]
                    show ys.getD k 0 = 1
                    rw [hyv k, ← fn_mx hk2, hfx]
                    exact mul_inv hx0
                  obtain ⟨ms3, hms3⟩ : ∃ ms3, ms3 = ms2.set k ⟨ra.ao, ra.cap, ys⟩ := ⟨_, rfl⟩
                  have hl3 : ms3.length = rs.length := by rw [hms3, List.length_set]; exact hl2
                  have hRl3 : ∀ z ∈ ms3, z.xs.length = rs.length + 1 := fun z hz => by
                    rw [hms3] at hz
                    rcases List.mem_or_eq_of_mem_set hz with h2 | h2
                    ·
                      exact hRl2 z h2
                    ·
                      rw [h2]; show ys.length = _; omega
                  rw [← hms3] at hA8 hG8 h1k
                  have hml3 : ms3.length = ms.length := by omega
                  refine WL.nil (WX.then_normal (WC.seq (WC.region (WL.move rfl rfl (WL.move rfl rfl (WL.nil (WX.then_normal (?_))))))))
                  refine WC.block (?_)
                  refine WC.loop (σ := Nat × List Rw) (fun q => [(0, .pointer (some ⟨gf, 0, none⟩)), (8, vi rs.length), (9, .slice am q.2.length cm), (12, vi (k : Int)), (58, vi rs.length), (59, vi (k : Int)), (117, vi rs.length), (118, vi (q.1 : Int))])
                    (fun q w' => q.1 ≤ rs.length ∧ AR w.heap.size w.heap.size n1 w' 26 5 am cm gs2 q.2 ∧ n1 ≤ w'.heap.size ∧ (q.2.length = rs.length ∧ ∀ z ∈ q.2, z.xs.length = rs.length + 1) ∧ GE rs.length R (fn (mx q.2)) k ∧ (fn (mx q.2) k k = 1 ∧ ∀ i, i < q.1 → i ≠ k → fn (mx q.2) i k = 0) ∧ Blk w' gf 146 FR ∧ Chg (fun x => x = gf) w w') (fun q => rs.length - q.1) (0, ms3) ⟨rfl, rfl, by show some (Value.slice am ms.length cm) = _; rw [← hml3], rfl, rfl, rfl, rfl, rfl, trivial⟩ ⟨Nat.zero_le _, hA8, by show n1 ≤ _; omega, ⟨hl3, hRl3⟩, hG8, ⟨h1k, fun i hi => absurd hi (Nat.not_lt_zero i)⟩, hR, hw⟩ ?_
                  clear hA8 hG8 h1k hR hw hA0 hA7 hn1 hmsl hRl hG hG7
                  rintro ⟨i, ms⟩ w3 ⟨hi, hA, hn1, ⟨hmsl, hRl⟩, hG, ⟨h1k, hz1⟩, hR, hw⟩
                  simp only at hi hA hmsl hRl hG h1k hz1
                  dsimp only
                  refine WC.seq (WC.region (?_))
                  refine WL.lss? rfl rfl rfl (fun h119 => ?_) (fun h119 => ?_)
                  ·
                    refine WL.nil (WX.then_normal (WC.seq (WC.cond_true rfl (WC.skip (WX.then_normal (WC.seq (WC.block (?_))))))))
                    refine WC.seq (WC.region (WL.move rfl rfl (WL.assign rfl rfl (WL.nil (WX.then_normal (WC.seq (WC.region (?_))))))))
                    refine WL.move rfl rfl (WL.move rfl rfl (?_))
                    refine WL.neq? rfl rfl rfl (fun h123 => ?_) (fun h123 => ?_)
                    ·
                      refine WL.nil (WX.then_normal (WC.cond_true rfl (?_)))
                      have hik : i ≠ k := by omega
                      obtain ⟨ri, hri⟩ : ∃ ri, ms[i]? = some ri := ⟨_, List.getElem?_eq_getElem (by omega)⟩
                      obtain ⟨gi, hgi⟩ : ∃ gi, gs2[i]? = some gi := ⟨_, List.getElem?_eq_getElem (by have := hA.len; omega)⟩
                      obtain ⟨rk, hrk⟩ : ∃ rk, ms[k]? = some rk := ⟨_, List.getElem?_eq_getElem (by omega)⟩
                      obtain ⟨gk, hgk⟩ : ∃ gk, gs2[k]? = some gk := ⟨_, List.getElem?_eq_getElem (by have := hA.len; omega)⟩
                      obtain ⟨ei, hRi, -, hni⟩ := hA.inner i gi ri hgi hri
                      obtain ⟨ek, hRk0, -, -⟩ := hA.inner k gk rk hgk hrk
                      have hril := hRl ri (List.mem_of_getElem? hri)
                      have hrkl := hRl rk (List.mem_of_getElem? hrk)
                      have hgkl : gk ≠ gi := fun e => hik (hA.apart i k gi hgi (by rw [← e]; exact hgk))
                      have hgil : w.heap.size ≤ gi := hA.low i gi hgi
                      obtain ⟨go, hgo⟩ := hA.outer.place0 (j := k) (by omega)
                      have hgoi : go ≠ gi := fun e => hni ⟨_, hgo, e.symm⟩
                      have hOu : Row (fun x => x ≠ gi) w3 26 erow (some ⟨go, 0, none⟩) cm ms := ⟨fun p ep => by injection ep with ep; rw [← ep]; exact hgoi, by rw [← hgo]; exact hA.outer.own⟩
                      have hRk : RSl (fun b => b ≠ gi) w3 eb (some ⟨gk, 0, none⟩) rk.cap rk.xs := hRk0.rsl.mono (fun b hb => by have e : b = gk := hb; omega)
                      obtain ⟨x, hx⟩ : ∃ x, ri.xs[k]? = some x := ⟨_, List.getElem?_eq_getElem (by omega)⟩
                      have hfx : fn (mx ms) i k = x := by rw [fn_mx hri, List.getD_eq_getElem?_getD, hx]; rfl
                      have hC := Chg.refl (fun b => b = gi) w3
                      have hA0 := hA
                      refine WC.draw (fun b => b = gi) [0, 1, 2, 3, 4, 5, 6, 7, 8, 9, 10, 11, 12, 13, 14] [15, 16] mixed rfl rfl (fun wd_20 kd_20 zd_20 => ?_)
                      have zs_kd_20 := kd_20.size
                      replace hR := hR.pure kd_20
                      replace hw := hw.pure kd_20
                      replace hOu := hOu.pure kd_20
                      replace hRk := hRk.pure kd_20
                      replace hRi := hRi.pure kd_20
                      replace hC := hC.pure kd_20
                      apply DQ.step (E' := [(0, _)])
                      case ho => rfl
                      case hs => exact ⟨rfl, trivial⟩
                      case hk => rfl
                      case h1 =>
                        intro wq_22 kq_22
                        refine WL.move rfl rfl (?_)
                        refine WL.nil ?_
                        exact WX.one ⟨rfl, by exact Chg.refl _ _⟩
                      apply DQ.step (E' := [(9, _)])
                      case ho => rfl
                      case hs => exact ⟨rfl, trivial⟩
                      case hk => rfl
                      case h1 =>
                        intro wq_23 kq_23
                        refine WL.move rfl rfl (?_)
                        refine WL.nil ?_
                        exact WX.one ⟨rfl, by exact Chg.refl _ _⟩
                      apply DQ.step (E' := [(16, _)])
                      case ho => rfl
                      case hs => exact ⟨rfl, trivial⟩
                      case hk => rfl
                      case h1 =>
                        intro wq_24 kq_24
                        refine WL.move rfl rfl (?_)
                        refine WL.nil ?_
                        exact WX.one ⟨rfl, by exact Chg.refl _ _⟩
                      apply DQ.step (E' := [(125, _), (126, _)])
                      case ho => rfl
                      case hs => exact ⟨rfl, rfl, trivial⟩
                      case hk => rfl
                      case h1 =>
                        intro wq_25 kq_25
                        have zs_kq_25 := kq_25.size
                        replace hOu := hOu.chg kq_25 (by intro x h1 h2; exact h2)
                        replace hRk := hRk.chg kq_25 (by intro x h1 h2; exact h2)
                        refine WL.indexC (e := erow) hOu.rsl Tryz.underlying87 Tryz.sizeOf26 (by show some (Value.slice am _ _) = _; rw [hgo]) rfl ⟨hri, rfl⟩ rfl ?_
                        refine WL.nil ?_
                        exact WX.one ⟨rfl, by exact Chg.refl _ _⟩
                      apply DQ.step (E' := [(127, _)])
                      case ho => rfl
                      case hs => exact ⟨rfl, trivial⟩
                      case hk => rfl
                      case h1 =>
                        intro wq_26 kq_26
                        have zs_kq_26 := kq_26.size
                        replace hOu := hOu.chg kq_26 (by intro x h1 h2; exact h2)
                        replace hRk := hRk.chg kq_26 (by intro x h1 h2; exact h2)
                        refine WL.load Tryz.isAgg26 rfl ((hOu.rsl.cellsAt hri) 0 _ rfl) rfl ?_
                        refine WL.nil ?_
                        exact WX.one ⟨rfl, by exact Chg.refl _ _⟩
                      apply DQ.step (E' := [(9, _)])
                      case ho => rfl
                      case hs => exact ⟨rfl, trivial⟩
                      case hk => rfl
                      case h1 =>
                        intro wq_27 kq_27
                        refine WL.move rfl rfl (?_)
                        refine WL.nil ?_
                        exact WX.one ⟨rfl, by exact Chg.refl _ _⟩
                      apply DQ.step (E' := [(12, _)])
                      case ho => rfl
                      case hs => exact ⟨rfl, trivial⟩
                      case hk => rfl
                      case h1 =>
                        intro wq_28 kq_28
                        refine WL.move rfl rfl (?_)
                        refine WL.nil ?_
                        exact WX.one ⟨rfl, by exact Chg.refl _ _⟩
                      apply DQ.step (E' := [(129, _), (130, _)])
                      case ho => rfl
                      case hs => exact ⟨rfl, rfl, trivial⟩
                      case hk => rfl
                      case h1 =>
                        intro wq_29 kq_29
                        have zs_kq_29 := kq_29.size
                        replace hOu := hOu.chg kq_29 (by intro x h1 h2; exact h2)
                        replace hRk := hRk.chg kq_29 (by intro x h1 h2; exact h2)
                        refine WL.indexC (e := erow) hOu.rsl Tryz.underlying87 Tryz.sizeOf26 (by show some (Value.slice am _ _) = _; rw [hgo]) rfl ⟨hrk, rfl⟩ rfl ?_
                        refine WL.nil ?_
                        exact WX.one ⟨rfl, by exact Chg.refl _ _⟩
                      apply DQ.step (E' := [(131, _)])
                      case ho => rfl
                      case hs => exact ⟨rfl, trivial⟩
                      case hk => rfl
                      case h1 =>
                        intro wq_30 kq_30
                        have zs_kq_30 := kq_30.size
                        replace hOu := hOu.chg kq_30 (by intro x h1 h2; exact h2)
                        replace hRk := hRk.chg kq_30 (by intro x h1 h2; exact h2)
                        refine WL.load Tryz.isAgg26 rfl ((hOu.rsl.cellsAt hrk) 0 _ rfl) rfl ?_
                        refine WL.nil ?_
                        exact WX.one ⟨rfl, by exact Chg.refl _ _⟩
                      apply DQ.step (E' := [(9, _)])
                      case ho => rfl
                      case hs => exact ⟨rfl, trivial⟩
                      case hk => rfl
                      case h1 =>
                        intro wq_31 kq_31
                        refine WL.move rfl rfl (?_)
                        refine WL.nil ?_
                        exact WX.one ⟨rfl, by exact Chg.refl _ _⟩
                      apply DQ.step (E' := [(16, _)])
                      case ho => rfl
                      case hs => exact ⟨rfl, trivial⟩
                      case hk => rfl
                      case h1 =>
                        intro wq_32 kq_32
                        refine WL.move rfl rfl (?_)
                        refine WL.nil ?_
                        exact WX.one ⟨rfl, by exact Chg.refl _ _⟩
                      apply DQ.step (E' := [(133, _), (134, _)])
                      case ho => rfl
                      case hs => exact ⟨rfl, rfl, trivial⟩
                      case hk => rfl
                      case h1 =>
                        intro wq_33 kq_33
                        have zs_kq_33 := kq_33.size
                        replace hOu := hOu.chg kq_33 (by intro x h1 h2; exact h2)
                        replace hRk := hRk.chg kq_33 (by intro x h1 h2; exact h2)
                        refine WL.indexC (e := erow) hOu.rsl Tryz.underlying87 Tryz.sizeOf26 (by show some (Value.slice am _ _) = _; rw [hgo]) rfl ⟨hri, rfl⟩ rfl ?_
                        refine WL.nil ?_
                        exact WX.one ⟨rfl, by exact Chg.refl _ _⟩
                      apply DQ.step (E' := [(135, _)])
                      case ho => rfl
                      case hs => exact ⟨rfl, trivial⟩
                      case hk => rfl
                      case h1 =>
                        intro wq_34 kq_34
                        have zs_kq_34 := kq_34.size
                        replace hOu := hOu.chg kq_34 (by intro x h1 h2; exact h2)
                        replace hRk := hRk.chg kq_34 (by intro x h1 h2; exact h2)
                        refine WL.load Tryz.isAgg26 rfl ((hOu.rsl.cellsAt hri) 0 _ rfl) rfl ?_
                        refine WL.nil ?_
                        exact WX.one ⟨rfl, by exact Chg.refl _ _⟩
                      apply DQ.step (E' := [(12, _)])
                      case ho => rfl
                      case hs => exact ⟨rfl, trivial⟩
                      case hk => rfl
                      case h1 =>
                        intro wq_35 kq_35
                        refine WL.move rfl rfl (?_)
                        refine WL.nil ?_
                        exact WX.one ⟨rfl, by exact Chg.refl _ _⟩
                      apply DQ.step (E' := [(136, _), (137, _)])
                      case ho => rfl
                      case hs => exact ⟨rfl, rfl, trivial⟩
                      case hk => rfl
                      case h1 =>
                        intro wq_36 kq_36
                        have zs_kq_36 := kq_36.size
                        replace hOu := hOu.chg kq_36 (by intro x h1 h2; exact h2)
                        replace hRk := hRk.chg kq_36 (by intro x h1 h2; exact h2)
                        refine WL.index (j := k) (sz := 1) Tryz.underlying26 Tryz.sizeOf5 (by show some (Value.slice ri.ao _ _) = some (Value.slice (some ⟨gi, 0, none⟩) _ _); rw [ei]) rfl rfl (by omega) rfl ?_
                        refine WL.nil ?_
                        exact WX.one ⟨rfl, by exact Chg.refl _ _⟩
                      refine DQ.done (fun hd_21 => ?_)
                      refine DL.step [(138, _)] rfl ⟨rfl, trivial⟩ rfl (fun wq_37 kq_37 => ?_)
                      have zs_kq_37 := kq_37.size
                      replace hR := hR.pure kq_37
                      replace hw := hw.pure kq_37
                      replace hOu := hOu.pure kq_37
                      replace hRk := hRk.pure kq_37
                      replace hRi := hRi.pure kq_37
                      replace hC := hC.pure kq_37
                      replace hd_21 := hd_21.pure kq_37
                      refine WL.load Tryz.isAgg5 rfl ((hRi.rsl.cellsAt hx) 0 _ rfl) rfl ?_
                      refine WL.nil ?_
                      refine WX.one ⟨hd_21, ?_⟩
                      refine DL.step [(124, _), (128, _), (132, _), (139, _)] rfl ⟨rfl, rfl, rfl, rfl, trivial⟩ rfl (fun wq_38 kq_38 => ?_)
                      have zs_kq_38 := kq_38.size
                      replace hR := hR.pure kq_38
                      replace hw := hw.pure kq_38
                      replace hOu := hOu.pure kq_38
                      replace hRk := hRk.pure kq_38
                      replace hRi := hRi.pure kq_38
                      replace hC := hC.pure kq_38
                      replace hd_21 := hd_21.pure kq_38
                      refine WL.call eg_109 (vs := [.pointer (some ⟨gf, 0, none⟩), .slice (some ⟨gi, 0, none⟩) ri.xs.length ri.cap, .slice (some ⟨gk, 0, none⟩) rk.xs.length rk.cap, v8 x]) (by show some [_, Value.slice ri.ao _ _, Value.slice rk.ao _ _, _] = _; rw [ei, ek]) rfl (fadd_calls hR hRi hRk (by omega) (by omega) (by omega) x) ?_
                      rintro v w8 ⟨rfl, ⟨ys, hyl, hyv, hr8⟩, k8⟩
                      have zk8 := k8.size
                      have zs_k8 := k8.size
                      replace hR := hR.chg k8 (by intro h1; have h2 : _ = _ := h1; exfalso; omega)
                      replace hw := hw.chg k8 (by intro x h1 h2; have h3 : _ = _ := h2; exfalso; omega)
                      replace hOu := hOu.chg k8 (by intro x h1 h2; exact h2)
                      replace hRk := hRk.chg k8 (by intro x h1 h2; exact h2)
                      replace hC := hC.chg k8 (by intro x h1 h2; exact h2)
                      replace hd_21 := hd_21.chg k8 (by intro x h1 h2; exact h2)
                      refine WL.nil ?_
                      refine WX.one ⟨hd_21, ?_⟩
                      refine DL.done (fun we_39 ke_39 => ?_)
                      have zs_ke_39 := ke_39.size
                      replace hR := hR.pure ke_39
                      replace hw := hw.pure ke_39
                      replace hOu := hOu.pure ke_39
                      replace hRk := hRk.pure ke_39
                      replace hC := hC.pure ke_39
                      replace hd_21 := hd_21.pure ke_39
                      replace hr8 := hr8.pure ke_39
                      refine WX.block_normal (WX.then_normal (WC.region (WL.add64 rfl rfl (by omega) rfl (WL.move rfl rfl (WL.nil (?_))))))
                      first
                        | exact WX.loop_next (i + 1, a4, c4, _, _, _) ⟨rfl, rfl, rfl, rfl, rfl, rfl, rfl, trivial⟩ ⟨⟨by show i + 1 ≤ _; omega, hB4⟩, hA4, Nat.le_refl _, hw.size, hF, h, hr, hw⟩ (by show rs.length - (i + 1) < rs.length - i; omega)
                        | exact WX.loop_next (a + 1) ⟨rfl, rfl, rfl, rfl, rfl, rfl, rfl, trivial⟩ ⟨⟨by omega, by omega⟩, fun i h1 h2 => (by
                            rcases Nat.lt_or_ge i a with h3 | h3
                            ·
                              exact hz0 i h1 h3
                            ·
                              rw [show i = a by omega, hfx]; exact u8_zero h74), hA, hn1, hR, hw⟩ (by omega)
                        | exact WX.loop_next (i + 1, ms.set i ⟨ri.ao, ri.cap, ys⟩) ⟨rfl, rfl, by show _ = some (Value.slice am (ms.set i ⟨ri.ao, ri.cap, ys⟩).length cm); rw [List.length_set]; rfl, rfl, rfl, rfl, rfl, rfl, trivial⟩ ⟨by show i + 1 ≤ _; omega, hA0.upd hgi hri hyl hC hr8, by show n1 ≤ _; have := hC.size; omega, ⟨by show (ms.set _ _).length = _; rw [List.length_set]; exact hmsl, fun z hz => by
                            rcases List.mem_or_eq_of_mem_set hz with h2 | h2
                            ·
                              exact hRl z h2
                            ·
                              rw [h2]; show ys.length = _; omega⟩, hG.add ⟨by omega, hik⟩ (by omega) x (fun p j hp => by
                            rw [fn_setr (by omega)]
                            by_cases e : p = i
                            ·
                              rw [if_pos e, if_pos e, e, fn_mx hri, fn_mx hrk]; exact hyv j
                            ·
                              rw [if_neg e, if_neg e]), ⟨by show fn (mx (ms.set _ _)) k k = 1; rw [fn_setr (by omega), if_neg (fun e => hik e.symm)]; exact h1k, fun p h1 h2 => (by
                            show fn (mx (ms.set _ _)) p k = 0
                            rw [fn_setr (by omega)]
                            by_cases e : p = i
                            ·
                              rw [if_pos e]
                              show ys.getD k 0 = 0
                              rw [hyv k, ← fn_mx hri, hfx, ← fn_mx hrk, h1k, one_mul', xor_self']
                            ·
                              rw [if_neg e]; exact hz1 p (by have h1 : p < i + 1 := h1; omega) h2)⟩, hR, hw⟩ (by show rs.length - (i + 1) < rs.length - i; omega)
                        | (have hik : i = k := by omega
                           exact WX.loop_next (i + 1, ms) ⟨rfl, rfl, rfl, rfl, rfl, rfl, rfl, rfl, trivial⟩ ⟨by show i + 1 ≤ _; omega, hA, hn1, ⟨hmsl, hRl⟩, hG, ⟨h1k, fun p h1 h2 => hz1 p (by have h1 : p < i + 1 := h1; omega) h2⟩, hR, hw⟩ (by show rs.length - (i + 1) < rs.length - i; omega))
                        | exact WX.loop_next (i + 1, out.set i x) ⟨rfl, rfl, rfl, rfl, rfl, trivial⟩ ⟨by show i + 1 ≤ _; omega, ⟨by show (out.set i x).length = _; rw [List.length_set]; exact hol, fun j hj => (by
                            show (out.set i x).getD j 0 = _
                            rw [List.getD_eq_getElem?_getD, List.getElem?_set]
                            by_cases e : i = j
                            ·
                              rw [if_pos e, if_pos (by omega), ← e, hfx]; rfl
                            ·
                              rw [if_neg e, ← List.getD_eq_getElem?_getD]
                              exact hov j (by have h1 : j < i + 1 := hj; omega))⟩, hA, hO7, hR, hw⟩ (by show rs.length - (i + 1) < rs.length - i; omega)
                        | (have hin : i = rs.length := by omega
                           exact WX.loop_next (k + 1, gs2, ms) ⟨rfl, rfl, rfl, rfl, rfl, trivial⟩ ⟨by show k + 1 ≤ _; omega, hA, hn1, ⟨hmsl, hRl⟩, hG.next (fun p hp => by
                             by_cases e : p = k
                             ·
                               rw [if_pos e, e]; exact h1k
                             ·
                               rw [if_neg e]; exact hz1 p (by omega) e), hR, hw⟩ (by show rs.length - (k + 1) < rs.length - k; omega))
                    ·
                      refine WL.nil (WX.then_normal (WC.cond_false rfl (WC.skip (WX.block_normal (WX.then_normal (WC.region (WL.add64 rfl rfl (by omega) rfl (?_))))))))
                      refine WL.move rfl rfl (WL.nil (?_))
                      first
                        | exact WX.loop_next (i + 1, a4, c4, _, _, _) ⟨rfl, rfl, rfl, rfl, rfl, rfl, rfl, trivial⟩ ⟨⟨by show i + 1 ≤ _; omega, hB4⟩, hA4, Nat.le_refl _, hw.size, hF, h, hr, hw⟩ (by show rs.length - (i + 1) < rs.length - i; omega)
                        | exact WX.loop_next (a + 1) ⟨rfl, rfl, rfl, rfl, rfl, rfl, rfl, trivial⟩ ⟨⟨by omega, by omega⟩, fun i h1 h2 => (by
                            rcases Nat.lt_or_ge i a with h3 | h3
                            ·
                              exact hz0 i h1 h3
                            ·
                              rw [show i = a by omega, hfx]; exact u8_zero h74), hA, hn1, hR, hw⟩ (by omega)
                        | exact WX.loop_next (i + 1, ms.set i ⟨ri.ao, ri.cap, ys⟩) ⟨rfl, rfl, by show _ = some (Value.slice am (ms.set i ⟨ri.ao, ri.cap, ys⟩).length cm); rw [List.length_set]; rfl, rfl, rfl, rfl, rfl, rfl, trivial⟩ ⟨by show i + 1 ≤ _; omega, hA0.upd hgi hri hyl hC hr8, by show n1 ≤ _; have := hC.size; omega, ⟨by show (ms.set _ _).length = _; rw [List.length_set]; exact hmsl, fun z hz => by
                            rcases List.mem_or_eq_of_mem_set hz with h2 | h2
                            ·
                              exact hRl z h2
                            ·
                              rw [h2]; show ys.length = _; omega⟩, hG.add ⟨by omega, hik⟩ (by omega) x (fun p j hp => by
                            rw [fn_setr (by omega)]
                            by_cases e : p = i
                            ·
                              rw [if_pos e, if_pos e, e, fn_mx hri, fn_mx hrk]; exact hyv j
                            ·
                              rw [if_neg e, if_neg e]), ⟨by show fn (mx (ms.set _ _)) k k = 1; rw [fn_setr (by omega), if_neg (fun e => hik e.symm)]; exact h1k, fun p h1 h2 => (by
                            show fn (mx (ms.set _ _)) p k = 0
                            rw [fn_setr (by omega)]
                            by_cases e : p = i
                            ·
                              rw [if_pos e]
                              show ys.getD k 0 = 0
                              rw [hyv k, ← fn_mx hri, hfx, ← fn_mx hrk, h1k, one_mul', xor_self']
                            ·
                              rw [if_neg e]; exact hz1 p (by have h1 : p < i + 1 := h1; omega) h2)⟩, hR, hw⟩ (by show rs.length - (i + 1) < rs.length - i; omega)
                        | (have hik : i = k := by omega
                           exact WX.loop_next (i + 1, ms) ⟨rfl, rfl, rfl, rfl, rfl, rfl, rfl, rfl, trivial⟩ ⟨by show i + 1 ≤ _; omega, hA, hn1, ⟨hmsl, hRl⟩, hG, ⟨h1k, fun p h1 h2 => hz1 p (by have h1 : p < i + 1 := h1; omega) h2⟩, hR, hw⟩ (by show rs.length - (i + 1) < rs.length - i; omega))
                        | exact WX.loop_next (i + 1, out.set i x) ⟨rfl, rfl, rfl, rfl, rfl, trivial⟩ ⟨by show i + 1 ≤ _; omega, ⟨by show (out.set i x).length = _; rw [List.length_set]; exact hol, fun j hj => (by
                            show (out.set i x).getD j 0 = _
                            rw [List.getD_eq_getElem?_getD, List.getElem?_set]
                            by_cases e : i = j
                            ·
                              rw [if_pos e, if_pos (by omega), ← e, hfx]; rfl
                            ·
                              rw [if_neg e, ← List.getD_eq_getElem?_getD]
                              exact hov j (by have h1 : j < i + 1 := hj; omega))⟩, hA, hO7, hR, hw⟩ (by show rs.length - (i + 1) < rs.length - i; omega)
                        | (have hin : i = rs.length := by omega
                           exact WX.loop_next (k + 1, gs2, ms) ⟨rfl, rfl, rfl, rfl, rfl, trivial⟩ ⟨by show k + 1 ≤ _; omega, hA, hn1, ⟨hmsl, hRl⟩, hG.next (fun p hp => by
                             by_cases e : p = k
                             ·
                               rw [if_pos e, e]; exact h1k
                             ·
                               rw [if_neg e]; exact hz1 p (by omega) e), hR, hw⟩ (by show rs.length - (k + 1) < rs.length - k; omega))
                  ·
                    refine WL.nil (WX.then_normal (WC.seq (WC.cond_false rfl (WC.exit (WX.then_exit (WX.then_exit (WX.block_here (?_))))))))
                    refine WX.block_normal (WX.then_normal (WC.region (WL.add64 rfl rfl (by omega) rfl (WL.move rfl rfl (WL.nil (?_))))))
                    first
                      | exact WX.loop_next (i + 1, a4, c4, _, _, _) ⟨rfl, rfl, rfl, rfl, rfl, rfl, rfl, trivial⟩ ⟨⟨by show i + 1 ≤ _; omega, hB4⟩, hA4, Nat.le_refl _, hw.size, hF, h, hr, hw⟩ (by show rs.length - (i + 1) < rs.length - i; omega)
                      | exact WX.loop_next (a + 1) ⟨rfl, rfl, rfl, rfl, rfl, rfl, rfl, trivial⟩ ⟨⟨by omega, by omega⟩, fun i h1 h2 => (by
                          rcases Nat.lt_or_ge i a with h3 | h3
                          ·
                            exact hz0 i h1 h3
                          ·
                            rw [show i = a by omega, hfx]; exact u8_zero h74), hA, hn1, hR, hw⟩ (by omega)
                      | exact WX.loop_next (i + 1, ms.set i ⟨ri.ao, ri.cap, ys⟩) ⟨rfl, rfl, by show _ = some (Value.slice am (ms.set i ⟨ri.ao, ri.cap, ys⟩).length cm); rw [List.length_set]; rfl, rfl, rfl, rfl, rfl, rfl, trivial⟩ ⟨by show i + 1 ≤ _; omega, hA0.upd hgi hri hyl hC hr8, by show n1 ≤ _; have := hC.size; omega, ⟨by show (ms.set _ _).length = _; rw [List.length_set]; exact hmsl, fun z hz => by
                          rcases List.mem_or_eq_of_mem_set hz with h2 | h2
                          ·
                            exact hRl z h2
                          ·
                            rw [h2]; show ys.length = _; omega⟩, hG.add ⟨by omega, hik⟩ (by omega) x (fun p j hp => by
                          rw [fn_setr (by omega)]
                          by_cases e : p = i
                          ·
                            rw [if_pos e, if_pos e, e, fn_mx hri, fn_mx hrk]; exact hyv j
                          ·
                            rw [if_neg e, if_neg e]), ⟨by show fn (mx (ms.set _ _)) k k = 1; rw [fn_setr (by omega), if_neg (fun e => hik e.symm)]; exact h1k, fun p h1 h2 => (by
                          show fn (mx (ms.set _ _)) p k = 0
                          rw [fn_setr (by omega)]
                          by_cases e : p = i
                          ·
                            rw [if_pos e]
                            show ys.getD k 0 = 0
                            rw [hyv k, ← fn_mx hri, hfx, ← fn_mx hrk, h1k, one_mul', xor_self']
                          ·
                            rw [if_neg e]; exact hz1 p (by have h1 : p < i + 1 := h1; omega) h2)⟩, hR, hw⟩ (by show rs.length - (i + 1) < rs.length - i; omega)
                      | (have hik : i = k := by omega
                         exact WX.loop_next (i + 1, ms) ⟨rfl, rfl, rfl, rfl, rfl, rfl, rfl, rfl, trivial⟩ ⟨by show i + 1 ≤ _; omega, hA, hn1, ⟨hmsl, hRl⟩, hG, ⟨h1k, fun p h1 h2 => hz1 p (by have h1 : p < i + 1 := h1; omega) h2⟩, hR, hw⟩ (by show rs.length - (i + 1) < rs.length - i; omega))
                      | exact WX.loop_next (i + 1, out.set i x) ⟨rfl, rfl, rfl, rfl, rfl, trivial⟩ ⟨by show i + 1 ≤ _; omega, ⟨by show (out.set i x).length = _; rw [List.length_set]; exact hol, fun j hj => (by
                          show (out.set i x).getD j 0 = _
                          rw [List.getD_eq_getElem?_getD, List.getElem?_set]
                          by_cases e : i = j
                          ·
                            rw [if_pos e, if_pos (by omega), ← e, hfx]; rfl
                          ·
                            rw [if_neg e, ← List.getD_eq_getElem?_getD]
                            exact hov j (by have h1 : j < i + 1 := hj; omega))⟩, hA, hO7, hR, hw⟩ (by show rs.length - (i + 1) < rs.length - i; omega)
                      | (have hin : i = rs.length := by omega
                         exact WX.loop_next (k + 1, gs2, ms) ⟨rfl, rfl, rfl, rfl, rfl, trivial⟩ ⟨by show k + 1 ≤ _; omega, hA, hn1, ⟨hmsl, hRl⟩, hG.next (fun p hp => by
                           by_cases e : p = k
                           ·
                             rw [if_pos e, e]; exact h1k
                           ·
                             rw [if_neg e]; exact hz1 p (by omega) e), hR, hw⟩ (by show rs.length - (k + 1) < rs.length - k; omega))
          ·
            refine WL.nil (WX.then_normal (WC.seq (WC.cond_false rfl (WC.exit (WX.then_exit (WX.then_exit (WX.block_here (?_))))))))
            refine WX.then_normal (WC.seq (WC.region (WL.move rfl rfl (?_))))
            have hkn : k = rs.length := by omega
            subst hkn
            refine WL.make (e := eb) (0 : UInt8) rs.length rs.length Tryz.underlying26 info_5 rfl rfl rfl ⟨rfl, rfl, Nat.le_refl _⟩ (by constructor <;> omega) rfl ?_
            intro g5 w5 hO5 k5 z5 e5
            rw [List.length_replicate]
            have zs_k5 := k5.size
            replace hA := hA.pure k5
            replace hR := hR.pure k5
            replace hw := hw.pure k5
            refine WL.assign rfl rfl (WL.nil (WX.then_normal (WC.seq (WC.seq (WC.region (WL.move rfl rfl (WL.move rfl rfl (?_))))))))
            refine WL.nil (WX.then_normal (WC.block (?_)))
            refine WC.loop (σ := Nat × List UInt8) (fun q => [(8, vi rs.length), (9, .slice am ms.length cm), (17, .slice (some ⟨g5, 0, none⟩) rs.length rs.length), (145, vi rs.length), (146, vi (q.1 : Int))])
              (fun q w' => q.1 ≤ rs.length ∧ (q.2.length = rs.length ∧ ∀ j, j < q.1 → q.2.getD j 0 = fn (mx ms) j rs.length) ∧ AR w.heap.size w.heap.size n1 w' 26 5 am cm gs ms ∧ Row (fun b => n1 ≤ b) w' 5 eb (some ⟨g5, 0, none⟩) rs.length q.2 ∧ Blk w' gf 146 FR ∧ Chg (fun x => x = gf) w w') (fun q => rs.length - q.1) (0, List.replicate rs.length 0) ⟨rfl, rfl, rfl, rfl, rfl, trivial⟩ ⟨Nat.zero_le _, ⟨List.length_replicate, fun j hj => absurd hj (Nat.not_lt_zero j)⟩, hA, hO5.mono (fun b hb => by omega), hR, hw⟩ ?_
            clear hA hO5 hR hw
            rintro ⟨i, out⟩ w6 ⟨hi, ⟨hol, hov⟩, hA, hO, hR, hw⟩
            simp only at hi hol hov hO
            dsimp only
            refine WC.seq (WC.region (?_))
            refine WL.lss? rfl rfl rfl (fun h147 => ?_) (fun h147 => ?_)
            ·
              refine WL.nil (WX.then_normal (WC.seq (WC.cond_true rfl (WC.skip (WX.then_normal (WC.seq (WC.block (?_))))))))
              refine WC.seq (WC.region (WL.move rfl rfl (WL.assign rfl rfl (WL.nil (WX.then_normal (WC.region (WL.move rfl rfl (?_))))))))
              refine WL.move rfl rfl (WL.move rfl rfl (WL.move rfl rfl (?_)))
              obtain ⟨ri, hri⟩ : ∃ ri, ms[i]? = some ri := ⟨_, List.getElem?_eq_getElem (by omega)⟩
              obtain ⟨gi, hgi⟩ : ∃ gi, gs[i]? = some gi := ⟨_, List.getElem?_eq_getElem (by have := hA.len; omega)⟩
              obtain ⟨ei, hRi, -, -⟩ := hA.inner i gi ri hgi hri
              have hril := hRl ri (List.mem_of_getElem? hri)
              obtain ⟨x, hx⟩ : ∃ x, ri.xs[rs.length]? = some x := ⟨_, List.getElem?_eq_getElem (by omega)⟩
              have hfx : fn (mx ms) i rs.length = x := by rw [fn_mx hri, List.getD_eq_getElem?_getD, hx]; rfl
              refine WL.indexT (e := erow) Tryz.underlying87 Tryz.sizeOf26 hA.outer.rsl rfl rfl ⟨hri, rfl⟩ rfl ?_
              intro bb oo hcc
              refine WL.load Tryz.isAgg26 rfl (hcc 0 _ rfl) rfl ?_
              refine WL.move rfl rfl (?_)
              refine WL.indexT (e := eb) Tryz.underlying26 Tryz.sizeOf5 hRi.rsl (by show some (Value.slice ri.ao _ _) = _; rw [ei]) rfl ⟨hx, rfl⟩ rfl ?_
              intro bb2 oo2 hcc2
              refine WL.load Tryz.isAgg5 rfl (hcc2 0 _ rfl) rfl ?_
              refine WL.index (j := i) (sz := 1) Tryz.underlying26 Tryz.sizeOf5 rfl rfl rfl (by omega) rfl ?_
              refine WL.storeRow (z := x) i Tryz.sizeOf5 hO rfl rfl rfl (by show 0 + i * 1 = i; omega) (by omega) rfl ?_
              intro w7 z7 hO7 k7
              have hg5n : n1 ≤ g5 := hO.at_ _ rfl
              replace hA := hA.chg k7 (fun b h1 h2 => by have e : b = g5 := h2; omega)
              replace hR := hR.chg k7 (fun e => by have e2 : gf = g5 := e; omega)
              replace hw := hw.chg k7 (fun z hz e => by have e2 : z = g5 := e; omega)
              refine WL.nil (WX.block_normal (WX.then_normal (WC.region (WL.add64 rfl rfl (by omega) rfl (WL.move rfl rfl (WL.nil (?_)))))))
              first
                | exact WX.loop_next (i + 1, a4, c4, _, _, _) ⟨rfl, rfl, rfl, rfl, rfl, rfl, rfl, trivial⟩ ⟨⟨by show i + 1 ≤ _; omega, hB4⟩, hA4, Nat.le_refl _, hw.size, hF, h, hr, hw⟩ (by show rs.length - (i + 1) < rs.length - i; omega)
                | exact WX.loop_next (a + 1) ⟨rfl, rfl, rfl, rfl, rfl, rfl, rfl, trivial⟩ ⟨⟨by omega, by omega⟩, fun i h1 h2 => (by
                    rcases Nat.lt_or_ge i a with h3 | h3
                    ·
                      exact hz0 i h1 h3
                    ·
                      rw [show i = a by omega, hfx]; exact u8_zero h74), hA, hn1, hR, hw⟩ (by omega)
                | exact WX.loop_next (i + 1, ms.set i ⟨ri.ao, ri.cap, ys⟩) ⟨rfl, rfl, by show _ = some (Value.slice am (ms.set i ⟨ri.ao, ri.cap, ys⟩).length cm); rw [List.length_set]; rfl, rfl, rfl, rfl, rfl, rfl, trivial⟩ ⟨by show i + 1 ≤ _; omega, hA0.upd hgi hri hyl hC hr8, by show n1 ≤ _; have := hC.size; omega, ⟨by show (ms.set _ _).length = _; rw [List.length_set]; exact hmsl, fun z hz => by
                    rcases List.mem_or_eq_of_mem_set hz with h2 | h2
                    ·
                      exact hRl z h2
                    ·
                      rw [h2]; show ys.length = _; omega⟩, hG.add ⟨by omega, hik⟩ (by omega) x (fun p j hp => by
                    rw [fn_setr (by omega)]
                    by_cases e : p = i
                    ·
                      rw [if_pos e, if_pos e, e, fn_mx hri, fn_mx hrk]; exact hyv j
                    ·
                      rw [if_neg e, if_neg e]), ⟨by show fn (mx (ms.set _ _)) k k = 1; rw [fn_setr (by omega), if_neg (fun e => hik e.symm)]; exact h1k, fun p h1 h2 => (by
                    show fn (mx (ms.set _ _)) p k = 0
                    rw [fn_setr (by omega)]
                    by_cases e : p = i
                    ·
                      rw [if_pos e]
                      show ys.getD k 0 = 0
                      rw [hyv k, ← fn_mx hri, hfx, ← fn_mx hrk, h1k, one_mul', xor_self']
                    ·
                      rw [if_neg e]; exact hz1 p (by have h1 : p < i + 1 := h1; omega) h2)⟩, hR, hw⟩ (by show rs.length - (i + 1) < rs.length - i; omega)
                | (have hik : i = k := by omega
                   exact WX.loop_next (i + 1, ms) ⟨rfl, rfl, rfl, rfl, rfl, rfl, rfl, rfl, trivial⟩ ⟨by show i + 1 ≤ _; omega, hA, hn1, ⟨hmsl, hRl⟩, hG, ⟨h1k, fun p h1 h2 => hz1 p (by have h1 : p < i + 1 := h1; omega) h2⟩, hR, hw⟩ (by show rs.length - (i + 1) < rs.length - i; omega))
                | exact WX.loop_next (i + 1, out.set i x) ⟨rfl, rfl, rfl, rfl, rfl, trivial⟩ ⟨by show i + 1 ≤ _; omega, ⟨by show (out.set i x).length = _; rw [List.length_set]; exact hol, fun j hj => (by
                    show (out.set i x).getD j 0 = _
                    rw [List.getD_eq_getElem?_getD, List.getElem?_set]
                    by_cases e : i = j
                    ·
                      rw [if_pos e, if_pos (by omega), ← e, hfx]; rfl
                    ·
                      rw [if_neg e, ← List.getD_eq_getElem?_getD]
                      exact hov j (by have h1 : j < i + 1 := hj; omega))⟩, hA, hO7, hR, hw⟩ (by show rs.length - (i + 1) < rs.length - i; omega)
                | (have hin : i = rs.length := by omega
                   exact WX.loop_next (k + 1, gs2, ms) ⟨rfl, rfl, rfl, rfl, rfl, trivial⟩ ⟨by show k + 1 ≤ _; omega, hA, hn1, ⟨hmsl, hRl⟩, hG.next (fun p hp => by
                     by_cases e : p = k
                     ·
                       rw [if_pos e, e]; exact h1k
                     ·
                       rw [if_neg e]; exact hz1 p (by omega) e), hR, hw⟩ (by show rs.length - (k + 1) < rs.length - k; omega))
            ·
              refine WL.nil (WX.then_normal (WC.seq (WC.cond_false rfl (WC.exit (WX.then_exit (WX.then_exit (WX.block_here (?_))))))))
              refine WX.then_normal (WC.seq (WC.region (WL.move rfl rfl (WL.assign rfl rfl (WL.assign rfl rfl (WL.nil (WX.then_normal (?_))))))))
              refine WC.ret (?_)
              refine WX.ret2 (.inl rfl) Tryz.results101 rfl rfl ?_
              have hin : i = rs.length := by omega
              refine ⟨_, rfl, ⟨some ⟨g5, 0, none⟩, rs.length, out, 0, by rw [hol], .inr (.inl ⟨hSok, rfl, by rw [hml]; exact hol, fun z => ?_⟩), hO.mono (fun b hb => by omega)⟩, .inr hR, hw⟩
              rw [hml]
              have hd := hG.done z
              constructor
              ·
                intro hs p hp
                rw [hov p (by omega)]
                exact hd.1 (fun q hq => by
                  rw [hRn q hq, ← hs q hq]
                  exact sumF_cong (fun j hj => by rw [hRj q j hq hj])) p hp
              ·
                intro hs p hp
                rw [← hRn p hp, ← hd.2 (fun q hq => by rw [hs q hq, hov q (by omega)]) p hp]
                exact sumF_cong (fun j hj => by rw [hRj p j hp hj])
end Go.Proofs.YtggecdldnpildaaGreat
namespace Go.HL
open Go.RowKit
theorem all_same {α : Type} (e : Enc α) {x z : α} : ∀ (xs : List α) (i : Nat), xs[i]? = some x → e.f z = e.f x → e.all (xs.set i z) = e.all xs
  | [], i, h, _ => by simp at h
  | y :: t, 0, h, hz => by
    simp at h
    subst h
    show e.f z ++ e.all t = e.f y ++ e.all t
    rw [hz]
  | y :: t, i + 1, h, hz => by
    have ih := all_same e t i (by simpa using h) hz
    show e.f y ++ e.all (t.set i z) = e.f y ++ e.all t
    rw [ih]
/-- rows in blocks of their own between an outer block and N; some may be nil -/
structure OB (w : World) (T U : TypeId) (go N : Nat) (rs : List Rw) : Prop where
  outer : Row (fun x => x = go) w T erow (some ⟨go, 0, none⟩) rs.length rs
  inner : ∀ (i : Nat) (r : Rw), rs[i]? = some r → r = ⟨none, 0, []⟩ ∨ ∃ g, r.ao = some ⟨g, 0, none⟩ ∧ (go < g ∧ g < N) ∧ Row (fun b => b = g) w U eb (some ⟨g, 0, none⟩) r.cap r.xs
  apart : ∀ (i j : Nat) (r s : Rw) (g : Nat), rs[i]? = some r → rs[j]? = some s → r.ao = some ⟨g, 0, none⟩ → s.ao = some ⟨g, 0, none⟩ → i = j
  lo : go < N
section
variable {w w' : World} {T U : TypeId} {go N : Nat} {rs : List Rw} {M : Nat → Prop}
theorem OB.lto (h : OB w T U go N rs) : go < w.heap.size := h.outer.own.lt _ rfl
theorem OB.chg (h : OB w T U go N rs) (k : Chg M w w') (hd : ∀ x, go ≤ x → x < N → M x → False) : OB w' T U go N rs :=
  ⟨h.outer.chg k (fun b hb e m => hd b (by have h2 : b = go := e; omega) (by have h2 : b = go := e; have := h.lo; omega) m), fun i r hr => by
    rcases h.inner i r hr with h1 | ⟨g, h1, h2, h3⟩
    · exact .inl h1
    · exact .inr ⟨g, h1, h2, h3.chg k (fun b hb e m => hd b (by have h4 : b = g := e; omega) (by have h4 : b = g := e; omega) m)⟩, h.apart, h.lo⟩
theorem OB.pure (h : OB w T U go N rs) (k : Chg Nob w w') : OB w' T U go N rs := h.chg k (fun _ _ _ x => x)
theorem OB.up (h : OB w T U go N rs) {N' : Nat} (hn : N ≤ N') : OB w T U go N' rs :=
  ⟨h.outer, fun i r hr => by
    rcases h.inner i r hr with h1 | ⟨g, h1, h2, h3⟩
    · exact .inl h1
    · exact .inr ⟨g, h1, ⟨h2.1, by omega⟩, h3⟩, h.apart, by have := h.lo; omega⟩
theorem OB.at (h : OB w T U go N rs) {i g : Nat} {r : Rw} (hr : rs[i]? = some r) (hg : r.ao = some ⟨g, 0, none⟩) : (go < g ∧ g < N) ∧ Row (fun b => b = g) w U eb (some ⟨g, 0, none⟩) r.cap r.xs := by
  rcases h.inner i r hr with h1 | ⟨g', h1, h2, h3⟩
  · rw [h1] at hg; cases hg
  · rw [hg] at h1
    injection h1 with h1
    injection h1 with h1
    subst h1
    exact ⟨h2, h3⟩
theorem OB.toRS (h : OB w T U go N rs) {S : Nat → Prop} (hS : ∀ x, go ≤ x → x < N → S x) : RS S w (some ⟨go, 0, none⟩) rs.length rs := by
  have h0 := h.lo
  refine ⟨h.outer.rsl.mono (fun b e => hS b (by have h2 : b = go := e; omega) (by have h2 : b = go := e; omega)), fun r hr => ?_⟩
  obtain ⟨i, hi⟩ := List.getElem?_of_mem hr
  rcases h.inner i r hi with h1 | ⟨g, h1, h2, h3⟩
  · rw [h1]; exact RSl.nil _ _ _ _ _
  · rw [h1]
    exact h3.rsl.mono (fun b e => hS b (by have h2 : b = g := e; omega) (by have h2 : b = g := e; omega))
/-- a place that is another row now: in a block that was made after all others -/
theorem OB.put (h : OB w T U go N rs) {i g cr : Nat} {xs : List UInt8} (hi : i < rs.length) (hg : N ≤ g) (hr : Row (fun b => b = g) w U eb (some ⟨g, 0, none⟩) cr xs)
    (k : Chg (fun x => x = go) w w') (ho : Row (fun x => x = go) w' T erow (some ⟨go, 0, none⟩) rs.length (rs.set i ⟨some ⟨g, 0, none⟩, cr, xs⟩)) : OB w' T U go (g + 1) (rs.set i ⟨some ⟨g, 0, none⟩, cr, xs⟩) := by
  have hlo := h.lo
  have hnew : ∀ (j : Nat) (r : Rw) (g' : Nat), rs[j]? = some r → r.ao = some ⟨g', 0, none⟩ → g' ≠ g := fun j r g' hj hra => by
    have := (h.at hj hra).1
    omega
  refine ⟨by rw [List.length_set]; exact ho, fun j r hj => ?_, fun a b r s g' ha hb hra hsb => ?_, by omega⟩
  · rw [List.getElem?_set] at hj
    split at hj
    · injection hj with hj
      subst hj
      exact .inr ⟨g, rfl, ⟨by omega, by omega⟩, hr.chg k (fun b _ e m => by have h2 : b = g := e; have h3 : b = go := m; omega)⟩
    · rcases h.inner j r hj with h1 | ⟨g', h1, h2, h3⟩
      · exact .inl h1
      · exact .inr ⟨g', h1, ⟨h2.1, by omega⟩, h3.chg k (fun b _ e m => by have h2 : b = g' := e; have h3 : b = go := m; omega)⟩
  · rw [List.getElem?_set] at ha hb
    split at ha <;> split at hb
    · omega
    · injection ha with ha
      subst ha
      injection hra with hra
      injection hra with hra
      exact absurd hra.symm (hnew b s g' hb hsb)
    · injection hb with hb
      subst hb
      injection hsb with hsb
      injection hsb with hsb
      exact absurd hsb.symm (hnew a r g' ha hra)
    · exact h.apart a b r s g' ha hb hra hsb
/-- a row's bytes have turned -/
theorem OB.upd (h : OB w T U go N rs) {i g cr : Nat} {xs ys : List UInt8} (hi : rs[i]? = some ⟨some ⟨g, 0, none⟩, cr, xs⟩) (hl : ys.length = xs.length) (k : Chg (fun x => x = g) w w') (hr : Row (fun b => b = g) w' U eb (some ⟨g, 0, none⟩) cr ys) : OB w' T U go N (rs.set i ⟨some ⟨g, 0, none⟩, cr, ys⟩) := by
  have hgo := (h.at hi rfl).1
  have hil := (List.getElem?_eq_some_iff.1 hi).1
  refine ⟨?_, fun j r hj => ?_, fun a b r s g' ha hb hra hsb => ?_, h.lo⟩
  · have h1 := h.outer.chg k (fun b _ e m => by have h2 : b = go := e; have h3 : b = g := m; omega)
    have e1 : erow.all (rs.set i ⟨some ⟨g, 0, none⟩, cr, ys⟩) = erow.all rs := all_same erow (z := ⟨some ⟨g, 0, none⟩, cr, ys⟩) rs i hi (by show [Value.slice (some ⟨g, 0, none⟩) ys.length cr] = [Value.slice (some ⟨g, 0, none⟩) xs.length cr]; rw [hl])
    exact ⟨h1.at_, by rw [e1, List.length_set]; exact h1.own⟩
  · rw [List.getElem?_set] at hj
    split at hj
    · injection hj with hj
      subst hj
      exact .inr ⟨g, rfl, hgo, hr⟩
    · rename_i hij
      rcases h.inner j r hj with h1 | ⟨g', h1, h2, h3⟩
      · exact .inl h1
      · exact .inr ⟨g', h1, h2, h3.chg k (fun b _ e m => hij (h.apart i j _ r g hi hj rfl (by have h2 : b = g' := e; have h3 : b = g := m; rw [h1, show g' = g from by omega])))⟩
  · rw [List.getElem?_set] at ha hb
    split at ha <;> split at hb
    · omega
    · rename_i e1 e2
      injection ha with ha
      subst ha
      rw [← e1]
      exact h.apart i b _ s g' hi hb hra hsb
    · rename_i e1 e2
      injection hb with hb
      subst hb
      rw [← e2]
      exact h.apart a i r _ g' ha hi hra hsb
    · exact h.apart a b r s g' ha hb hra hsb
end
/-! rows and numbers that are gathered side by side -/
def li (l : List Nat) : List Int := l.map (fun i : Nat => (i : Int))
theorem li_len (l : List Nat) : (li l).length = l.length := by rw [li, List.length_map]
theorem li_at {l : List Nat} {i x : Nat} (h : l[i]? = some x) : (li l)[i]? = some (x : Int) := by rw [li, List.getElem?_map, h]; rfl
theorem li_app (a b : List Nat) : li (a ++ b) = li a ++ li b := by rw [li, li, li, List.map_append]
structure GA (N : Nat) (w : World) (T TI : TypeId) (ar : Option Addr) (cr : Nat) (ms : List Rw) (af : Option Addr) (cf : Nat) (fs : List Nat) : Prop where
  outer : Row (fun x => N ≤ x ∧ Eqb ar x) w T erow ar cr ms
  inner : ∀ r ∈ ms, RSl (fun x => N ≤ x ∧ ¬ Eqb ar x ∧ ¬ Eqb af x) w eb r.ao r.cap r.xs
  nums : Row (fun x => N ≤ x ∧ Eqb af x ∧ ¬ Eqb ar x) w TI ei af cf (li fs)
section
variable {N : Nat} {w w' : World} {T TI : TypeId} {ar af : Option Addr} {cr cf : Nat} {ms : List Rw} {fs : List Nat} {M : Nat → Prop}
theorem Row.eqb {α : Type} {e : Enc α} {S : Nat → Prop} {ao : Option Addr} {c : Nat} {xs : List α} (h : Row S w T e ao c xs) : Row (fun x => S x ∧ Eqb ao x) w T e ao c xs := ⟨fun a e => ⟨h.at_ a e, ⟨a, e, rfl⟩⟩, h.own⟩
theorem GA.nil (N : Nat) (w : World) (T TI : TypeId) : GA N w T TI none 0 [] none 0 [] := ⟨Row.nil _ _ _ _, (fun r hr => by cases hr), Row.nil _ _ _ _⟩
theorem GA.chg (h : GA N w T TI ar cr ms af cf fs) (k : Chg M w w') (hd : ∀ x, N ≤ x → x < w.heap.size → ¬ M x) : GA N w' T TI ar cr ms af cf fs :=
  ⟨h.outer.chg k (fun b hb e m => hd b e.1 hb m), fun r hr => (h.inner r hr).chg k (fun b hb e m => hd b e.1 hb m), h.nums.chg k (fun b hb e m => hd b e.1 hb m)⟩
theorem GA.pure (h : GA N w T TI ar cr ms af cf fs) (k : Chg Nob w w') : GA N w' T TI ar cr ms af cf fs := h.chg k (fun _ _ _ x => x)
theorem GA.bound (h : GA N w T TI ar cr ms af cf fs) : ∀ x, Eqb ar x ∨ Eqb af x → x < w.heap.size := by
  rintro x (h1 | h1)
  · exact (h.outer.lt.at_.eqb h1).2
  · exact (h.nums.lt.at_.eqb h1).2
theorem GA.rows (h : GA N w T TI ar cr ms af cf fs) : RS (fun x => N ≤ x) w ar cr ms := ⟨h.outer.rsl.mono (fun _ e => e.1), fun r hr => (h.inner r hr).mono (fun _ e => e.1)⟩
theorem GA.snocR (h : GA N w T TI ar cr ms af cf fs) {r : Rw} (hr : RSl (fun x => N ≤ x ∧ ¬ Eqb ar x ∧ ¬ Eqb af x) w eb r.ao r.cap r.xs) {ar2 : Option Addr} {c2 : Nat} (ho : Row (fun x => N ≤ x) w' T erow ar2 c2 (ms ++ [r])) (g : Grow (fun x => N ≤ x) w ar w' ar2) : GA N w' T TI ar2 c2 (ms ++ [r]) af cf fs := by
  have hnew : ∀ x, x < w.heap.size → Eqb ar2 x → Eqb ar x := by
    intro x hx e
    rcases g.fr with e1 | e1
    · rw [← e1]; exact e
    · have := e1.eqb e
      omega
  refine ⟨ho.eqb, fun q hq => ?_, ?_⟩
  · have h1 : RSl (fun x => N ≤ x ∧ ¬ Eqb ar x ∧ ¬ Eqb af x) w eb q.ao q.cap q.xs := by
      rcases List.mem_append.1 hq with h1 | h1
      · exact h.inner q h1
      · rw [List.mem_singleton.1 h1]; exact hr
    exact (h1.lt.chg g.chg (fun b _ e m => e.1.2.1 m.1)).mono (fun b e => ⟨e.1.1, fun e2 => e.1.2.1 (hnew b e.2 e2), e.1.2.2⟩)
  · exact (h.nums.lt.chg g.chg (fun b _ e m => e.1.2.2 m.1)).mono (fun b e => ⟨e.1.1, e.1.2.1, fun e2 => e.1.2.2 (hnew b e.2 e2)⟩)
theorem GA.snocN (h : GA N w T TI ar cr ms af cf fs) {q : Nat} {af2 : Option Addr} {c2 : Nat} (ho : Row (fun x => N ≤ x) w' TI ei af2 c2 (li fs ++ [(q : Int)])) (g : Grow (fun x => N ≤ x) w af w' af2) : GA N w' T TI ar cr ms af2 c2 (fs ++ [q]) := by
  have hnew : ∀ x, x < w.heap.size → Eqb af2 x → Eqb af x := by
    intro x hx e
    rcases g.fr with e1 | e1
    · rw [← e1]; exact e
    · have := e1.eqb e
      omega
  have hdis : ∀ x, Eqb af x → ¬ Eqb ar x := fun x e => (h.nums.at_.eqb e).2.2
  refine ⟨h.outer.chg g.chg (fun b _ e m => hdis b m.1 e.2), fun r hr => ?_, ?_⟩
  · exact (((h.inner r hr).lt).chg g.chg (fun b _ e m => e.1.2.2 m.1)).mono (fun b e => ⟨e.1.1, e.1.2.1, fun e2 => e.1.2.2 (hnew b e.2 e2)⟩)
  · rw [li_app]
    refine ho.eqb.mono (fun b e => ⟨e.1, e.2, fun e2 => ?_⟩)
    have hlt := (h.outer.lt.at_.eqb e2).2
    exact hdis b (hnew b hlt e.2) e2
end
/-! the bytes that are healed -/
theorem fn_setr2 {ys : List (List UInt8)} {i t : Nat} {r : List UInt8} (hr : ys[i]? = some r) (x : UInt8) (ht : t < r.length) (a b : Nat) : fn (ys.set i (r.set t x)) a b = if a = i ∧ b = t then x else fn ys a b := by
  have hil := (List.getElem?_eq_some_iff.1 hr).1
  rw [fn_set hil]
  by_cases e : a = i
  · subst e
    rw [if_pos rfl, fn_at1 hr, List.getD_eq_getElem?_getD, List.getElem?_set]
    by_cases e2 : t = b
    · subst e2
      rw [if_pos rfl, if_pos ht, if_pos ⟨rfl, rfl⟩]
      rfl
    · rw [if_neg e2, if_neg (fun h => e2 h.2.symm), ← List.getD_eq_getElem?_getD]
  · rw [if_neg e, if_neg (fun h => e h.1)]
end Go.HL
/-! plain: what heal has done -/
namespace Go.HL
open Go.RowKit
structure HealI (rs rs' : List Rw) (k : Nat) (L F : List Nat) (at' : Nat) : Prop where
  len : rs'.length = rs.length
  row : ∀ (i : Nat) (r : Rw), rs[i]? = some r → ∃ xs, rs'[i]? = some ⟨r.ao, r.cap, xs⟩ ∧ xs.length = r.xs.length ∧ (i ∉ L → xs = r.xs)
  eqs : ∀ t, t < at' → ∀ q ∈ F, sumF k (fun j => mul (wtq q j) (fn (mx rs') j t)) = fn (mx rs') (k + q) t
theorem mx_set (rs : List Rw) (i : Nat) (r : Rw) : mx (rs.set i r) = (mx rs).set i r.xs := by rw [mx, mx, List.map_set]
section
variable {rs rs' : List Rw} {k : Nat} {L F : List Nat} {at' : Nat}
theorem HealI.start (rs : List Rw) (k : Nat) (L F : List Nat) : HealI rs rs k L F 0 := ⟨rfl, fun i r h => ⟨r.xs, h, rfl, fun _ => rfl⟩, fun t h => absurd h (Nat.not_lt_zero t)⟩
theorem HealI.back (h : HealI rs rs' k L F at') {i : Nat} {r' : Rw} (hr : rs'[i]? = some r') : ∃ r, rs[i]? = some r ∧ r'.ao = r.ao ∧ r'.cap = r.cap ∧ r'.xs.length = r.xs.length ∧ (i ∉ L → r'.xs = r.xs) := by
  have hi := (List.getElem?_eq_some_iff.1 hr).1
  obtain ⟨r, h1⟩ : ∃ r, rs[i]? = some r := ⟨_, List.getElem?_eq_getElem (by rw [← h.len]; exact hi)⟩
  obtain ⟨xs, h2, h3, h4⟩ := h.row i r h1
  rw [hr] at h2
  injection h2 with h2
  subst h2
  exact ⟨r, h1, rfl, rfl, h3, h4⟩
theorem HealI.same (h : HealI rs rs' k L F at') {i : Nat} (hi : i ∉ L) (t : Nat) : fn (mx rs') i t = fn (mx rs) i t := by
  refine fn_opt ?_ t
  rcases hr : rs[i]? with _ | r
  · have h1 : rs.length ≤ i := List.getElem?_eq_none_iff.1 hr
    rw [List.getElem?_eq_none (by rw [mx_len, h.len]; exact h1), List.getElem?_eq_none (by rw [mx_len]; exact h1)]
  · obtain ⟨xs, h2, _, h4⟩ := h.row i r hr
    rw [mx_at h2, mx_at hr, h4 hi]
theorem HealI.set (h : HealI rs rs' k L F at') {i : Nat} (hi : i ∈ L) {r : Rw} (hr : rs'[i]? = some r) (hF : ∀ q ∈ F, i ≠ k + q) (hx : at' < r.xs.length) (x : UInt8) : HealI rs (rs'.set i ⟨r.ao, r.cap, r.xs.set at' x⟩) k L F at' := by
  have hil := (List.getElem?_eq_some_iff.1 hr).1
  refine ⟨by rw [List.length_set]; exact h.len, fun j s hs => ?_, fun t ht q hq => ?_⟩
  · obtain ⟨xs, h1, h2, h3⟩ := h.row j s hs
    by_cases e : i = j
    · subst e
      rw [hr] at h1
      injection h1 with h1
      subst h1
      exact ⟨xs.set at' x, by rw [List.getElem?_set, if_pos rfl, if_pos hil], by rw [List.length_set]; exact h2, fun hn => absurd hi hn⟩
    · exact ⟨xs, by rw [List.getElem?_set_ne e]; exact h1, h2, h3⟩
  · have hk : ∀ j, fn (mx (rs'.set i ⟨r.ao, r.cap, r.xs.set at' x⟩)) j t = fn (mx rs') j t := fun j => by
      rw [mx_set, fn_setr2 (mx_at hr) x hx, if_neg (by omega)]
    rw [hk, ← h.eqs t ht q hq]
    exact sumF_cong (fun j _ => by rw [hk])
theorem HealI.step (h : HealI rs rs' k L F at') (he : ∀ q ∈ F, sumF k (fun j => mul (wtq q j) (fn (mx rs') j at')) = fn (mx rs') (k + q) at') : HealI rs rs' k L F (at' + 1) :=
  ⟨h.len, h.row, fun t ht q hq => by
    rcases Nat.lt_or_ge t at' with h1 | h1
    · exact h.eqs t h1 q hq
    · have e : t = at' := by omega
      subst e
      exact he q hq⟩
end
/-- a byte's equation: the lost columns' part and the others' -/
theorem heal_eq {bad : List Int} {k q : Nat} {y y0 : Nat → UInt8} {p s : UInt8} (hs : sumF k (fun j => mul (wtq q j) (y0 j)) = s) (h1 : ∀ j, j ∉ lostL k bad → y j = y0 j) (h0 : ∀ j, j ∈ lostL k bad → y0 j = 0)
    (he : sumF (lostL k bad).length (fun b => mul (wtq q ((lostL k bad).getD b 0)) (y ((lostL k bad).getD b 0))) = s ^^^ p) : sumF k (fun j => mul (wtq q j) (y j)) = p := by
  have e1 : sumF k (fun j => mul (wtq q j) (y j ^^^ y0 j)) = sumF k (fun j => mul (wtq q j) (y j)) ^^^ s := by
    rw [← hs, ← sumF_xor]
    exact sumF_cong (fun j _ => mul_xor _ _ _)
  have e2 : sumF k (fun j => mul (wtq q j) (y j ^^^ y0 j)) = s ^^^ p := by
    rw [sumF_some (p := fun i : Nat => decide ((i : Int) ∈ bad)) (fun j hj hp => by
      rw [h1 j (fun hm => by have := (lost_mem.1 hm).2; simp [this] at hp), xor_self', mul_zero_r]), ← he]
    refine sumF_cong (fun b hb => ?_)
    have hm : (lostL k bad).getD b 0 ∈ lostL k bad := by
      have hb2 : b < (lostL k bad).length := hb
      rw [List.getD_eq_getElem?_getD, List.getElem?_eq_getElem hb2]
      exact List.getElem_mem _
    show mul (wtq q ((lostL k bad).getD b 0)) (y ((lostL k bad).getD b 0) ^^^ y0 ((lostL k bad).getD b 0)) = _
    rw [h0 _ hm, xor_zero']
  rw [e2] at e1
  have e3 : sumF k (fun j => mul (wtq q j) (y j)) ^^^ s ^^^ s = s ^^^ p ^^^ s := by rw [← e1]
  rw [UInt8.xor_assoc, xor_self', xor_zero'] at e3
  rw [e3, UInt8.xor_comm s p, UInt8.xor_assoc, xor_self', xor_zero']
/-- the lost columns' equations have a solution -/
theorem sol_good {k : Nat} {bad : List Int} (hk : k ≤ 13) (hb : bad.length ≤ 3) {rows : List (List UInt8)} {rhs out : List UInt8} {e : Int} (hL : 1 ≤ (lostL k bad).length) (hrl : rows.length = (lostL k bad).length) (hrr : ∀ (a q : Nat) (r : List UInt8), (fromL k bad)[a]? = some q → rows[a]? = some r → r = (lostL k bad).map (wtq q)) (hrhs : rhs.length = (lostL k bad).length)
    (h : SolR rows rhs out e) : e = 0 ∧ out.length = (lostL k bad).length ∧ ∀ (a q : Nat), (fromL k bad)[a]? = some q → sumF (lostL k bad).length (fun b => mul (wtq q ((lostL k bad).getD b 0)) (out.getD b 0)) = rhs.getD a 0 := by
  have hfl := from_len k hb
  have hfn : ∀ a b, a < (lostL k bad).length → b < (lostL k bad).length → fn rows a b = wtq ((fromL k bad).getD a 0) ((lostL k bad).getD b 0) := by
    intro a b ha hb
    obtain ⟨q, hq⟩ : ∃ q, (fromL k bad)[a]? = some q := ⟨_, List.getElem?_eq_getElem (by omega)⟩
    obtain ⟨r, hr⟩ : ∃ r, rows[a]? = some r := ⟨_, List.getElem?_eq_getElem (by omega)⟩
    obtain ⟨i, hi⟩ : ∃ i, (lostL k bad)[b]? = some i := ⟨_, List.getElem?_eq_getElem hb⟩
    rw [fn_at1 hr, hrr a q r hq hr, List.getD_eq_getElem?_getD, List.getElem?_map, hi, List.getD_eq_getElem?_getD, hq, List.getD_eq_getElem?_getD, hi]
    rfl
  have h13 : ∀ i ∈ lostL k bad, i < 13 := fun i hi => by have := (lost_mem.1 hi).1; omega
  have hl3 : (lostL k bad).length ≤ 3 := by rw [← hfl, fromL, List.length_take]; exact Nat.le_trans (Nat.min_le_right _ _) (by exact List.length_filter_le _ _)
  have hsh : ShapeOk rows rhs := by
    refine ⟨by omega, by omega, fun r hr => ?_⟩
    obtain ⟨a, ha⟩ := List.getElem?_of_mem hr
    have hal := (List.getElem?_eq_some_iff.1 ha).1
    obtain ⟨q, hq⟩ : ∃ q, (fromL k bad)[a]? = some q := ⟨_, List.getElem?_eq_getElem (by omega)⟩
    rw [hrr a q r hq ha, List.length_map]
    omega
  rcases h with ⟨h1, _⟩ | ⟨_, h1, h2, h3⟩ | ⟨_, _, _, y, ⟨j, hj, hy⟩, hK⟩
  · exact absurd hsh h1
  · refine ⟨h1, by omega, fun a q hq => ?_⟩
    have hal := (List.getElem?_eq_some_iff.1 hq).1
    have h4 := (h3 (fun i => out.getD i 0)).2 (fun _ _ => rfl) a (by omega)
    rw [← h4, hrl]
    refine sumF_cong (fun b hb => ?_)
    rw [hfn a b (by omega) hb, List.getD_eq_getElem?_getD (l := fromL k bad), hq]
    rfl
  · exfalso
    rw [hrl] at hK hj
    exact hy (van hfl.symm h13 (fun q hq => (from_mem hq).1) (lost_sorted k bad) (from_sorted k bad) hfn hK hj)
end Go.HL
