import Derived.Test.YtjdbjdgobhjbkaaHn
namespace Go.HL
open Go.RowKit
section
variable {P : Program} {ops : Array Oper} {Q : Exit → Act → World → Prop} {N : Nat} {E : Env} {w : World} {rest : List Oper} {ty : TypeId} {pos : String} {af : Array Edge} {d : Nat} {α : Type} {e : Enc α} {S : Nat → Prop} {t T : TypeId} {x y : Operand}
/-- a block as a slice from its head on -/
theorem RSl.ofBlk {g c : Nat} {zs : List α} (h : Blk w g T (e.all zs)) (hc : zs.length ≤ c) : RSl (· = g) w e (some ⟨g, 0, none⟩) c zs :=
  ⟨fun _ a ea => by injection ea with ea; subst ea; rfl, hc, by rw [Enc.all_len], fun j u hu => ⟨g, 0, rfl, by rw [Nat.zero_add]; exact h.cell hu⟩⟩
theorem WL.makeB {lo hi : Operand} {kl kc : IntKind} {l c : Int} {bytes : Nat} {z : Value} (z0 : α) (n m : Nat) (ht : P.underlying t = some (.slice T)) (hinfo : (P.info? T).map (fun i => (i.zero, i.size, i.bytes)) = some (some z, e.sz, bytes)) (hz : z.cells.toList = e.f z0)
    (hl : ev E lo = some (.int kl l)) (hc : ev E hi = some (.int kc c)) (hn : l = (n : Int) ∧ c = (m : Int) ∧ n ≤ m) (hb : bytes * m ≤ 140737488355328 ∧ m ≤ 9223372036854775807) (hd : Nat.blt d N = true)
    (h : ∀ g w', Blk w' g T (e.all (List.replicate m z0)) → Chg Nob w w' → w'.heap.size = w.heap.size + 1 → g = w.heap.size → WL P ops Q N rest ((d, .slice (some ⟨g, 0, none⟩) n m) :: E) w') :
    WL P ops Q N (⟨some d, .makeSlice t lo hi, ty, pos, af, none⟩ :: rest) E w := by
  obtain ⟨i, hi1, h1, h2, h3⟩ := info_parts hinfo
  obtain ⟨rfl, rfl, hnm⟩ := hn
  have hbb : (bytes : Int) * (m : Int) ≤ 281474976710656 := by
    have : ((bytes * m : Nat) : Int) ≤ 281474976710656 := by omega
    rwa [Int.natCast_mul] at this
  have hr := run_make (P := P) w t T i z ht hi1 h1 kl kc (n : Int) (m : Int) (by omega) (by omega) (by rw [h3]; exact hbb) (by omega)
  simp only [Int.toNat_natCast, h2] at hr
  refine WL.run (.slice (some ⟨w.heap.size, 0, none⟩) n m) (w.alloc (.cells (madeCells z.cells (m * e.sz)) T)) (fun a ha => by simp [execOp, ev_eval ha hl, ev_eval ha hc, hr]) hd ?_
  refine h w.heap.size (w.alloc (.cells (madeCells z.cells (m * e.sz)) T)) ?_ (Chg.alloc _ _) (by simp) rfl
  have h4 := make_cells (e := e) z.cells z0 m m hz (Nat.le_refl _)
  rw [List.take_of_length_le (by simp [madeCells])] at h4
  rw [← h4]
  have := Blk.new w T (madeCells z.cells (m * e.sz)).toList
  simpa using this
theorem setCells_size (g : Nat) : ∀ (vs : List Value) (o : Nat) (w : World), (w.setCells g o vs).heap.size = w.heap.size
  | [], _, _ => rfl
  | v :: r, o, w => by rw [World.setCells, setCells_size g r]; simp
theorem WL.appendB {tx : TypeId} {s : Operand} {g n c bytes : Nat} {zs ys : List α} {z v : Value} (hinfo : (P.info? T).map (fun i => (i.zero, i.size, i.bytes)) = some (some z, e.sz, bytes))
    (ht : P.underlying t = some (.slice T)) (hs : ev E s = some (.slice (some ⟨g, 0, none⟩) n c)) (hx : ev E x = some v) (ho : Blk w g T (e.all zs)) (hzc : zs.length = c) (hsrc : Src P e.sz tx v ys.length (e.all ys) w)
    (hroom : n + ys.length ≤ c) (hd : Nat.blt d N = true)
    (h : ∀ w', Blk w' g T (e.all (zs.take n ++ ys ++ zs.drop (n + ys.length))) → Chg (· = g) w w' → w'.heap.size = w.heap.size → WL P ops Q N rest ((d, .slice (some ⟨g, 0, none⟩) (n + ys.length) c) :: E) w') :
    WL P ops Q N (⟨some d, .call ⟨.builtin .append, #[s, x], #[t, tx]⟩, ty, pos, af, none⟩ :: rest) E w := by
  obtain ⟨i, hi, h1, h2, h3⟩ := info_parts hinfo
  have hlen : (e.all zs).length = c * e.sz := by rw [Enc.all_len, hzc]
  have hlen2 : (e.all ys).length = ys.length * e.sz := Enc.all_len _ _
  have hfit : n * e.sz + (e.all ys).length ≤ (e.all zs).length := by rw [hlen, hlen2, ← Nat.add_mul]; exact Nat.mul_le_mul_right _ hroom
  have hfit2 : n * i.size + (e.all ys).length ≤ (e.all zs).toArray.size := by rw [h2]; simpa using hfit
  have hr := run_append_room_src (P := P) w t tx ty T i ht hi g 0 n c v ys.length (e.all ys) (by rw [h2]; exact hsrc) hroom
    (fun j hj => by rw [Nat.zero_add, cell_of_row w g _ (e.all zs).toArray T (0, 0) ho]; rw [Array.getElem?_eq_getElem (by omega)]; rfl)
    (fun j hj => ho.free _)
  rw [Nat.zero_add, h2] at hr
  refine WL.run _ _ (fun a ha => by simp [execOp, resolve, invoke, builtin, ev_eval ha hs, ev_eval ha hx, hr]; rfl) hd (h _ ?_ (setCells_chg g _ _ w) (setCells_size _ _ _ _))
  have hs2 := setCells_blk ho (n * e.sz) (e.all ys) hfit
  rw [Enc.all_append, Enc.all_append, ← Enc.all_take, ← Enc.all_drop, Nat.add_mul, ← hlen2]
  exact hs2
/-- append to a row of the call's own: what it held is read as before at its old place -/
theorem WL.append' {tx : TypeId} {s : Operand} {ao : Option Addr} {c bytes : Nat} {xs ys : List α} {z v : Value} (hinfo : (P.info? T).map (fun i => (i.zero, i.size, i.bytes)) = some (some z, e.sz, bytes)) (hzs : z.cells.size = e.sz)
    (ht : P.underlying t = some (.slice T)) (hs : ev E s = some (.slice ao xs.length c)) (hx : ev E x = some v) (ho : Row S w T e ao c xs) (hsrc : Src P e.sz tx v ys.length (e.all ys) w)
    (hb : (xs.length + ys.length) * bytes ≤ 140737488355328 ∧ xs.length + ys.length ≤ 9223372036854775807) (hS : ∀ b, w.heap.size ≤ b → S b) (hd : Nat.blt d N = true)
    (h : ∀ ao2 c2 w', Row S w' T e ao2 c2 (xs ++ ys) → Grow S w ao w' ao2 → (ao2 = none → xs ++ ys = []) → RSl S w' e ao c xs → WL P ops Q N rest ((d, .slice ao2 (xs ++ ys).length c2) :: E) w') :
    WL P ops Q N (⟨some d, .call ⟨.builtin .append, #[s, x], #[t, tx]⟩, ty, pos, af, none⟩ :: rest) E w := by
  obtain ⟨i, hi, h1, h2, h3⟩ := info_parts hinfo
  obtain ⟨ao', c', w', hr, how, hc, hor, hno⟩ := run_append_hl (P := P) w t tx ty T i z e.sz bytes ht hi h1 h2 h3 hzs ao xs.length c (e.all xs) ho.own v ys.length (e.all ys) hsrc (by simpa [maxLen] using hb.2) hb.1
  refine WL.run _ w' (fun a ha => by simp [execOp, resolve, invoke, builtin, ev_eval ha hs, ev_eval ha hx, hr]; rfl) hd ?_
  rw [← List.length_append]
  have hrow : Row S w' T e ao' c' (xs ++ ys) := ⟨by
    rcases hor with rfl | h5
    · exact ho.at_
    · exact h5.mono hS, by rw [List.length_append, Enc.all_append]; exact how⟩
  refine h ao' c' w' hrow ⟨hc.mono fun b _ hb => ⟨hb.1, ho.at_.eqb hb.1⟩, hor⟩ (fun hn => ?_) ?_
  · obtain ⟨rfl, h6⟩ := hno hn
    have h7 := ho.rsl.none_nil
    subst h7
    simpa using h6
  · by_cases he : ao' = ao
    · subst he
      have := hrow.rsl.take xs.length (by simp)
      rw [List.take_left] at this
      exact ⟨this.at_, ho.rsl.cap, this.sl⟩
    · exact ho.rsl.chg hc (fun b _ _ h9 => he h9.2)
theorem WL.sliceTop {hi : Operand} {ao : Option Addr} {n c h : Nat} {j : IntKind} {xs : List α} (ht : P.underlying t = some (.slice T)) (hs : ∀ w, (sizeOf T).run P w = .ok e.sz w) (hr : RSl S w e ao c xs) (hx : ev E x = some (.slice ao n c))
    (hhi : ev E hi = some (.int j (h : Int))) (hl : h ≤ xs.length) (hd : Nat.blt d N = true)
    (k' : ∀ ao2, RSl S w e ao2 c (xs.take h) → WL P ops Q N rest ((d, .slice ao2 (xs.take h).length c) :: E) w) : WL P ops Q N (⟨some d, .slice t x none (some hi) none, ty, pos, af, none⟩ :: rest) E w := by
  have hcap := hr.cap
  have h1 := hr.cut 0 h ⟨Nat.zero_le _, hl⟩
  rw [List.drop_zero, Nat.sub_zero] at h1
  refine WL.run _ w (fun a ha => ?_) hd (k' _ h1)
  have := run_sliceAt (P := P) (t := t) w ht hs ao n c 0 h .i64 j none (some (.int j (h : Int))) (.inr ⟨rfl, rfl⟩) (.inl ⟨rfl, by omega⟩) (Nat.zero_le _)
  simp [execOp, ev_eval ha hx, ev_eval ha hhi, this]
  omega
end
end Go.HL
