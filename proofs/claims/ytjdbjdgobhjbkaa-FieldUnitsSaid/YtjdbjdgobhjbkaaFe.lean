import Derived.Test.YtjdbjdgobhjbkaaFo
import Derived.Test.YtjdbjdgobhjbkaaFd
namespace Go.Proofs.Ytjdbjdgobhjbkaa
open Go.RowKit Go.HL

/-- a field that was not asked yet -/
def FZ : List Value := cellsF (.int .u32 0) (.int .i32 0) (expN 0) (logN 0)
/-- a field whose tables are there -/
def FR : List Value := cellsF (.int .u32 1) (.int .i32 0) EXP LOG
theorem Blk.drew {w : World} {b : Nat} {e : TypeId} {cs : List Value} (h : Blk w b e cs) : Blk w.drew b e cs := h
set_option maxRecDepth 100000 in
set_option maxHeartbeats 1600000 in
theorem slow_calls {w : World} {g gv : Nat} (hb : Blk w g 65 FZ) (hv : Blk w gv 28 [.pointer (some ⟨g, 0, none⟩)]) (hne : g ≠ gv) :
    Calls Try.prog 56 #[.pointer (some ⟨g, 0, none⟩), .func (.func 53) #[] #[.pointer (some ⟨gv, 0, none⟩)]] w fun e w' => e = .returned (.tuple #[]) ∧ Blk w' g 65 FR ∧ Chg (fun x => x = g) w w' := by
  have h0 : w.cell? ⟨g, 0, none⟩ = some (.int .u32 0) := hb.cell rfl
  have h1 : w.cell? ⟨g, 0 + 1, none⟩ = some (.int .i32 0) := hb.cell rfl
  have f1 : w.frozen? ⟨g, 0 + 1, none⟩ = false := hb.free _
  have hb1 : Blk (w.setCell ⟨g, 0 + 1, none⟩ (.int .i32 1)) g 65 (cellsF (.int .u32 0) (.int .i32 1) (expN 0) (logN 0)) := hb.set (0 + 1) (.int .i32 1)
  have c1 : Chg (fun x => x = g) w (w.setCell ⟨g, 0 + 1, none⟩ (.int .i32 1)) := Chg.setCell w ⟨g, 0 + 1, none⟩ _
  have hv1 := Blk.chg hv c1 (fun h => hne h.symm)
  have hl := run_call_load (P := Try.prog) Try.func57 (by kernel_rfl) (by kernel_rfl) (by kernel_rfl) .u32 (by kernel_rfl) (w := w.setCell ⟨g, 0 + 1, none⟩ (.int .i32 1)) (a := ⟨g, 0, none⟩) (x := 0) (hb1.cell rfl)
  have hnot : ∀ (x : Bool) (w : World), (Op.unary .not (.bool x)).run Try.prog w = .ok (.bool (!x)) w := fun _ _ => rfl
  go_enter_defers Try.func56, Try.ntmps56
  go_wp2_with (first | (go_at_call 58; refine (lock_free ⟨g, 0 + 1, none⟩ _ h1 f1).mono ?_; rintro e w' ⟨rfl, rfl⟩) | (go_at_call 55; go_in) | (go_at_call 53; refine (fill_calls hb1 hv1 hne).mono ?_; rintro e w2 ⟨v, rfl, rfl, hb2, c2⟩))
  have d1 : w2.cell? ⟨g, 0, none⟩ = some (.int .u32 0) := hb2.cell rfl
  have d2 : w2.frozen? ⟨g, 0, none⟩ = false := hb2.free _
  have hb3 : Blk (w2.drew.setCell ⟨g, 0, none⟩ (.int .u32 1)) g 65 (cellsF (.int .u32 1) (.int .i32 1) (expN 255) (logN 255)) := (Blk.drew hb2).set 0 (.int .u32 1)
  have c3 : Chg (fun x => x = g) w2 (w2.drew.setCell ⟨g, 0, none⟩ (.int .u32 1)) := ((Chg.drew w2).mono (M' := fun x => x = g) (fun _ _ h => h.elim)).trans (Chg.setCell w2.drew ⟨g, 0, none⟩ _) (fun _ _ h => h)
  have d3 : (w2.drew.setCell ⟨g, 0, none⟩ (.int .u32 1)).cell? ⟨g, 1, none⟩ = some (.int .i32 1) := hb3.cell rfl
  have d4 : (w2.drew.setCell ⟨g, 0, none⟩ (.int .u32 1)).frozen? ⟨g, 1, none⟩ = false := hb3.free _
  have hb4 : Blk ((w2.drew.setCell ⟨g, 0, none⟩ (.int .u32 1)).setCell ⟨g, 1, none⟩ (.int .i32 0)) g 65 (cellsF (.int .u32 1) (.int .i32 0) (expN 255) (logN 255)) := hb3.set 1 (.int .i32 0)
  rw [exp_end, log_end] at hb4
  have c4 := (c1.trans c2 (fun _ _ h => h)).trans (c3.trans (Chg.setCell (w2.drew.setCell ⟨g, 0, none⟩ (.int .u32 1)) ⟨g, 1, none⟩ (.int .i32 0)) (fun _ _ h => h)) (fun _ _ h => h)
  refine leaves_cons (f := 60) (args := #[.pointer (some ⟨g, 0, none⟩), .bool true]) (by simp) (by simp [go_sem]) ?_
  refine (store_deferred ⟨g, 0, none⟩ (.int .u32 0) .returning _ d1 d2).mono ?_
  rintro e u' w'' ⟨rfl, rfl, rfl⟩
  refine leaves_cons (f := 59) (args := #[.pointer (some ⟨g, 1, none⟩)]) (by simp [settle]) (by simp [go_sem]) ?_
  refine (unlock_deferred ⟨g, 1, none⟩ _ _ d3 d4).mono ?_
  rintro e u' w'' ⟨rfl, rfl, rfl⟩
  have hend : Blk ((w2.drew.setCell ⟨g, 0, none⟩ (.int .u32 1)).setCell ⟨g, 1, none⟩ (.int .i32 0)) g 65 FR ∧ Chg (fun x => x = g) w ((w2.drew.setCell ⟨g, 0, none⟩ (.int .u32 1)).setCell ⟨g, 1, none⟩ (.int .i32 0)) := ⟨hb4, c4⟩
  refine ⟨.tuple #[], ?_, rfl, hend⟩
  simp [results, Try.results56]
/-- Do, for the first time -/
theorem do_first {w : World} {g gv : Nat} (hb : Blk w g 65 FZ) (hv : Blk w gv 28 [.pointer (some ⟨g, 0, none⟩)]) (hne : g ≠ gv) :
    Calls Try.prog 52 #[.pointer (some ⟨g, 0, none⟩), .func (.func 53) #[] #[.pointer (some ⟨gv, 0, none⟩)]] w fun e w' => e = .returned (.tuple #[]) ∧ Blk w' g 65 FR ∧ Chg (fun x => x = g) w w' := by
  have h0 : w.cell? ⟨g, 0, none⟩ = some (.int .u32 0) := hb.cell rfl
  have hl := run_call_load (P := Try.prog) Try.func57 (by kernel_rfl) (by kernel_rfl) (by kernel_rfl) .u32 (by kernel_rfl) h0
  have hnot : ∀ (x : Bool) (w : World), (Op.unary .not (.bool x)).run Try.prog w = .ok (.bool (!x)) w := fun _ _ => rfl
  go_enter Try.func52, Try.ntmps52
  go_wp2_with (first | (go_at_call 56; refine (slow_calls hb hv hne).mono ?_; rintro e w' ⟨rfl, hend⟩) | (go_at_call 55; go_in))
  go_end0
  exact ⟨rfl, hend⟩
/-- Do, later -/
theorem do_done {w : World} {g : Nat} (hb : Blk w g 65 FR) (fv : Value) :
    Calls Try.prog 52 #[.pointer (some ⟨g, 0, none⟩), fv] w fun e w' => e = .returned (.tuple #[]) ∧ w' = w := by
  have h0 : w.cell? ⟨g, 0, none⟩ = some (.int .u32 1) := hb.cell rfl
  have hl := run_call_load (P := Try.prog) Try.func57 (by kernel_rfl) (by kernel_rfl) (by kernel_rfl) .u32 (by kernel_rfl) h0
  have hnot : ∀ (x : Bool) (w : World), (Op.unary .not (.bool x)).run Try.prog w = .ok (.bool (!x)) w := fun _ _ => rfl
  go_enter Try.func52, Try.ntmps52
  go_wp2
  go_end0
  exact ⟨rfl, rfl⟩
/-- a field, asked or not -/
def Fld (w : World) (g : Nat) : Prop := Blk w g 65 FZ ∨ Blk w g 65 FR
theorem Fld.lt {w : World} {g : Nat} (h : Fld w g) : g < w.heap.size := by rcases h with h | h <;> exact Blk.lt h
theorem Fld.chg {w w' : World} {g : Nat} {M : Nat → Prop} (h : Fld w g) (k : Chg M w w') (hm : ¬ M g) : Fld w' g := by
  rcases h with h | h
  · exact .inl (Blk.chg h k hm)
  · exact .inr (Blk.chg h k hm)
theorem Fld.pure {w w' : World} {g : Nat} (h : Fld w g) (k : Chg Nob w w') : Fld w' g := h.chg k (fun x => x)
/-- Do, the first time or later -/
theorem do_calls {w : World} {g gv : Nat} (hb : Fld w g) (hv : Blk w gv 28 [.pointer (some ⟨g, 0, none⟩)]) (hne : g ≠ gv) :
    Calls Try.prog 52 [.pointer (some ⟨g, 0, none⟩), .func (.func 53) #[] #[.pointer (some ⟨gv, 0, none⟩)]].toArray w (Ret fun v w' => v = .tuple #[] ∧ Blk w' g 65 FR ∧ Chg (fun x => x = g) w w') := by
  rcases hb with hb | hb
  · refine (do_first hb hv hne).mono ?_
    rintro e w' ⟨rfl, h1, h2⟩
    exact ⟨_, rfl, rfl, h1, h2⟩
  · refine (do_done hb _).mono ?_
    rintro e w' ⟨rfl, rfl⟩
    exact ⟨_, rfl, rfl, hb, Chg.refl _ _⟩
end Go.Proofs.Ytjdbjdgobhjbkaa
