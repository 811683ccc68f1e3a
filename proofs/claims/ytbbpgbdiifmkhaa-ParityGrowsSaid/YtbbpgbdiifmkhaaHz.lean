import Derived.Laws.ResultCell
import Derived.Test.YtbbpgbdiifmkhaaProg
import Derived.Test.YtbbpgbdiifmkhaaHi
namespace Go.Proofs.Ytbbpgbdiifmkhaa
open Go.RowKit Go.HL
theorem eg_2 : ∀ (args : Array Value) (w : World), (callFunc 2 args).run Try.prog w = .ok (.enter 2 args) w := eg_of Try.func2 (by kernel_rfl) rfl
theorem eg_3 : ∀ (args : Array Value) (w : World), (callFunc 3 args).run Try.prog w = .ok (.enter 3 args) w := eg_of Try.func3 (by kernel_rfl) rfl
theorem eg_4 : ∀ (args : Array Value) (w : World), (callFunc 4 args).run Try.prog w = .ok (.enter 4 args) w := eg_of Try.func4 (by kernel_rfl) rfl
theorem eg_5 : ∀ (args : Array Value) (w : World), (callFunc 5 args).run Try.prog w = .ok (.enter 5 args) w := eg_of Try.func5 (by kernel_rfl) rfl
theorem eg_6 : ∀ (args : Array Value) (w : World), (callFunc 6 args).run Try.prog w = .ok (.enter 6 args) w := eg_of Try.func6 (by kernel_rfl) rfl
theorem eg_7 : ∀ (args : Array Value) (w : World), (callFunc 7 args).run Try.prog w = .ok (.enter 7 args) w := eg_of Try.func7 (by kernel_rfl) rfl
theorem eg_8 : ∀ (args : Array Value) (w : World), (callFunc 8 args).run Try.prog w = .ok (.enter 8 args) w := eg_of Try.func8 (by kernel_rfl) rfl
theorem eg_9 : ∀ (args : Array Value) (w : World), (callFunc 9 args).run Try.prog w = .ok (.enter 9 args) w := eg_of Try.func9 (by kernel_rfl) rfl
theorem eg_10 : ∀ (args : Array Value) (w : World), (callFunc 10 args).run Try.prog w = .ok (.enter 10 args) w := eg_of Try.func10 (by kernel_rfl) rfl
theorem eg_11 : ∀ (args : Array Value) (w : World), (callFunc 11 args).run Try.prog w = .ok (.enter 11 args) w := eg_of Try.func11 (by kernel_rfl) rfl
theorem eg_12 : ∀ (args : Array Value) (w : World), (callFunc 12 args).run Try.prog w = .ok (.enter 12 args) w := eg_of Try.func12 (by kernel_rfl) rfl
theorem eg_13 : ∀ (args : Array Value) (w : World), (callFunc 13 args).run Try.prog w = .ok (.enter 13 args) w := eg_of Try.func13 (by kernel_rfl) rfl
theorem eg_14 : ∀ (args : Array Value) (w : World), (callFunc 14 args).run Try.prog w = .ok (.enter 14 args) w := eg_of Try.func14 (by kernel_rfl) rfl
theorem eg_15 : ∀ (args : Array Value) (w : World), (callFunc 15 args).run Try.prog w = .ok (.enter 15 args) w := eg_of Try.func15 (by kernel_rfl) rfl
theorem eg_16 : ∀ (args : Array Value) (w : World), (callFunc 16 args).run Try.prog w = .ok (.enter 16 args) w := eg_of Try.func16 (by kernel_rfl) rfl
theorem eg_17 : ∀ (args : Array Value) (w : World), (callFunc 17 args).run Try.prog w = .ok (.enter 17 args) w := eg_of Try.func17 (by kernel_rfl) rfl
theorem eg_18 : ∀ (args : Array Value) (w : World), (callFunc 18 args).run Try.prog w = .ok (.enter 18 args) w := eg_of Try.func18 (by kernel_rfl) rfl
theorem eg_19 : ∀ (args : Array Value) (w : World), (callFunc 19 args).run Try.prog w = .ok (.enter 19 args) w := eg_of Try.func19 (by kernel_rfl) rfl
theorem eg_20 : ∀ (args : Array Value) (w : World), (callFunc 20 args).run Try.prog w = .ok (.enter 20 args) w := eg_of Try.func20 (by kernel_rfl) rfl
theorem eg_21 : ∀ (args : Array Value) (w : World), (callFunc 21 args).run Try.prog w = .ok (.enter 21 args) w := eg_of Try.func21 (by kernel_rfl) rfl
theorem eg_22 : ∀ (args : Array Value) (w : World), (callFunc 22 args).run Try.prog w = .ok (.enter 22 args) w := eg_of Try.func22 (by kernel_rfl) rfl
theorem eg_23 : ∀ (args : Array Value) (w : World), (callFunc 23 args).run Try.prog w = .ok (.enter 23 args) w := eg_of Try.func23 (by kernel_rfl) rfl
theorem eg_24 : ∀ (args : Array Value) (w : World), (callFunc 24 args).run Try.prog w = .ok (.enter 24 args) w := eg_of Try.func24 (by kernel_rfl) rfl
theorem eg_25 : ∀ (args : Array Value) (w : World), (callFunc 25 args).run Try.prog w = .ok (.enter 25 args) w := eg_of Try.func25 (by kernel_rfl) rfl
theorem eg_26 : ∀ (args : Array Value) (w : World), (callFunc 26 args).run Try.prog w = .ok (.enter 26 args) w := eg_of Try.func26 (by kernel_rfl) rfl
theorem eg_27 : ∀ (args : Array Value) (w : World), (callFunc 27 args).run Try.prog w = .ok (.enter 27 args) w := eg_of Try.func27 (by kernel_rfl) rfl
theorem eg_28 : ∀ (args : Array Value) (w : World), (callFunc 28 args).run Try.prog w = .ok (.enter 28 args) w := eg_of Try.func28 (by kernel_rfl) rfl
theorem eg_29 : ∀ (args : Array Value) (w : World), (callFunc 29 args).run Try.prog w = .ok (.enter 29 args) w := eg_of Try.func29 (by kernel_rfl) rfl
theorem eg_30 : ∀ (args : Array Value) (w : World), (callFunc 30 args).run Try.prog w = .ok (.enter 30 args) w := eg_of Try.func30 (by kernel_rfl) rfl
theorem eg_31 : ∀ (args : Array Value) (w : World), (callFunc 31 args).run Try.prog w = .ok (.enter 31 args) w := eg_of Try.func31 (by kernel_rfl) rfl
theorem eg_32 : ∀ (args : Array Value) (w : World), (callFunc 32 args).run Try.prog w = .ok (.enter 32 args) w := eg_of Try.func32 (by kernel_rfl) rfl
theorem eg_33 : ∀ (args : Array Value) (w : World), (callFunc 33 args).run Try.prog w = .ok (.enter 33 args) w := eg_of Try.func33 (by kernel_rfl) rfl
theorem eg_34 : ∀ (args : Array Value) (w : World), (callFunc 34 args).run Try.prog w = .ok (.enter 34 args) w := eg_of Try.func34 (by kernel_rfl) rfl
theorem eg_35 : ∀ (args : Array Value) (w : World), (callFunc 35 args).run Try.prog w = .ok (.enter 35 args) w := eg_of Try.func35 (by kernel_rfl) rfl
theorem eg_36 : ∀ (args : Array Value) (w : World), (callFunc 36 args).run Try.prog w = .ok (.enter 36 args) w := eg_of Try.func36 (by kernel_rfl) rfl
theorem eg_37 : ∀ (args : Array Value) (w : World), (callFunc 37 args).run Try.prog w = .ok (.enter 37 args) w := eg_of Try.func37 (by kernel_rfl) rfl
theorem eg_39 : ∀ (args : Array Value) (w : World), (callFunc 39 args).run Try.prog w = .ok (.enter 39 args) w := eg_of Try.func39 (by kernel_rfl) rfl
theorem eg_40 : ∀ (args : Array Value) (w : World), (callFunc 40 args).run Try.prog w = .ok (.enter 40 args) w := eg_of Try.func40 (by kernel_rfl) rfl
theorem eg_41 : ∀ (args : Array Value) (w : World), (callFunc 41 args).run Try.prog w = .ok (.enter 41 args) w := eg_of Try.func41 (by kernel_rfl) rfl
theorem eg_42 : ∀ (args : Array Value) (w : World), (callFunc 42 args).run Try.prog w = .ok (.enter 42 args) w := eg_of Try.func42 (by kernel_rfl) rfl
theorem eg_43 : ∀ (args : Array Value) (w : World), (callFunc 43 args).run Try.prog w = .ok (.enter 43 args) w := eg_of Try.func43 (by kernel_rfl) rfl
theorem eg_45 : ∀ (args : Array Value) (w : World), (callFunc 45 args).run Try.prog w = .ok (.enter 45 args) w := eg_of Try.func45 (by kernel_rfl) rfl
theorem eg_50 : ∀ (args : Array Value) (w : World), (callFunc 50 args).run Try.prog w = .ok (.enter 50 args) w := eg_of Try.func50 (by kernel_rfl) rfl
theorem eg_53 : ∀ (args : Array Value) (w : World), (callFunc 53 args).run Try.prog w = .ok (.enter 53 args) w := eg_of Try.func53 (by kernel_rfl) rfl
theorem fld_7_0 (b o : Nat) (w : World) : (Instr.fieldAt 7 (.pointer (some ⟨b, o, none⟩)) 0).run Try.prog w = .ok (.pointer (some ⟨b, o + 0, none⟩)) w := by
  simp [Instr.fieldAt, run_underlying Try.underlying7, Instr.sureAddr, fieldPlace, Try.sizeOf2, Addr.add_lit]
theorem fld_7_1 (b o : Nat) (w : World) : (Instr.fieldAt 7 (.pointer (some ⟨b, o, none⟩)) 1).run Try.prog w = .ok (.pointer (some ⟨b, o + 1, none⟩)) w := by
  simp [Instr.fieldAt, run_underlying Try.underlying7, Instr.sureAddr, fieldPlace, Try.sizeOf3, Addr.add_lit]
theorem fld_7_2 (b o : Nat) (w : World) : (Instr.fieldAt 7 (.pointer (some ⟨b, o, none⟩)) 2).run Try.prog w = .ok (.pointer (some ⟨b, o + 2, none⟩)) w := by
  simp [Instr.fieldAt, run_underlying Try.underlying7, Instr.sureAddr, fieldPlace, Try.sizeOf4, Addr.add_lit]
theorem fld_7_3 (b o : Nat) (w : World) : (Instr.fieldAt 7 (.pointer (some ⟨b, o, none⟩)) 3).run Try.prog w = .ok (.pointer (some ⟨b, o + 3, none⟩)) w := by
  simp [Instr.fieldAt, run_underlying Try.underlying7, Instr.sureAddr, fieldPlace, Try.sizeOf6, Addr.add_lit]
theorem fld_13_0 (b o : Nat) (w : World) : (Instr.fieldAt 13 (.pointer (some ⟨b, o, none⟩)) 0).run Try.prog w = .ok (.pointer (some ⟨b, o + 0, none⟩)) w := by
  simp [Instr.fieldAt, run_underlying Try.underlying13, Instr.sureAddr, fieldPlace, Try.sizeOf9, Addr.add_lit]
theorem fld_13_1 (b o : Nat) (w : World) : (Instr.fieldAt 13 (.pointer (some ⟨b, o, none⟩)) 1).run Try.prog w = .ok (.pointer (some ⟨b, o + 1, none⟩)) w := by
  simp [Instr.fieldAt, run_underlying Try.underlying13, Instr.sureAddr, fieldPlace, Try.sizeOf12, Addr.add_lit]
theorem fld_18_0 (b o : Nat) (w : World) : (Instr.fieldAt 18 (.pointer (some ⟨b, o, none⟩)) 0).run Try.prog w = .ok (.pointer (some ⟨b, o + 0, none⟩)) w := by
  simp [Instr.fieldAt, run_underlying Try.underlying18, Instr.sureAddr, fieldPlace, Try.sizeOf17, Addr.add_lit]
theorem fld_41_1 (b o : Nat) (w : World) : (Instr.fieldAt 41 (.pointer (some ⟨b, o, none⟩)) 1).run Try.prog w = .ok (.pointer (some ⟨b, o + 0, none⟩)) w := by
  simp [Instr.fieldAt, run_underlying Try.underlying41, Instr.sureAddr, fieldPlace, Try.sizeOf40, Addr.add_lit]
theorem fld_42_1 (b o : Nat) (w : World) : (Instr.fieldAt 42 (.pointer (some ⟨b, o, none⟩)) 1).run Try.prog w = .ok (.pointer (some ⟨b, o + 0, none⟩)) w := by
  simp [Instr.fieldAt, run_underlying Try.underlying42, Instr.sureAddr, fieldPlace, Try.sizeOf40, Addr.add_lit]
theorem fld_43_0 (b o : Nat) (w : World) : (Instr.fieldAt 43 (.pointer (some ⟨b, o, none⟩)) 0).run Try.prog w = .ok (.pointer (some ⟨b, o + 0, none⟩)) w := by
  simp [Instr.fieldAt, run_underlying Try.underlying43, Instr.sureAddr, fieldPlace, Try.sizeOf21, Addr.add_lit]
theorem fld_43_1 (b o : Nat) (w : World) : (Instr.fieldAt 43 (.pointer (some ⟨b, o, none⟩)) 1).run Try.prog w = .ok (.pointer (some ⟨b, o + 1, none⟩)) w := by
  simp [Instr.fieldAt, run_underlying Try.underlying43, Instr.sureAddr, fieldPlace, Try.sizeOf40, Addr.add_lit]
theorem fld_44_0 (b o : Nat) (w : World) : (Instr.fieldAt 44 (.pointer (some ⟨b, o, none⟩)) 0).run Try.prog w = .ok (.pointer (some ⟨b, o + 0, none⟩)) w := by
  simp [Instr.fieldAt, run_underlying Try.underlying44, Instr.sureAddr, fieldPlace, Try.sizeOf21, Addr.add_lit]
theorem fld_44_1 (b o : Nat) (w : World) : (Instr.fieldAt 44 (.pointer (some ⟨b, o, none⟩)) 1).run Try.prog w = .ok (.pointer (some ⟨b, o + 1, none⟩)) w := by
  simp [Instr.fieldAt, run_underlying Try.underlying44, Instr.sureAddr, fieldPlace, Try.sizeOf40, Addr.add_lit]
theorem fld_45_1 (b o : Nat) (w : World) : (Instr.fieldAt 45 (.pointer (some ⟨b, o, none⟩)) 1).run Try.prog w = .ok (.pointer (some ⟨b, o + 0, none⟩)) w := by
  simp [Instr.fieldAt, run_underlying Try.underlying45, Instr.sureAddr, fieldPlace, Try.sizeOf44, Addr.add_lit]
theorem fld_46_1 (b o : Nat) (w : World) : (Instr.fieldAt 46 (.pointer (some ⟨b, o, none⟩)) 1).run Try.prog w = .ok (.pointer (some ⟨b, o + 0, none⟩)) w := by
  simp [Instr.fieldAt, run_underlying Try.underlying46, Instr.sureAddr, fieldPlace, Try.sizeOf44, Addr.add_lit]
theorem fld_47_1 (b o : Nat) (w : World) : (Instr.fieldAt 47 (.pointer (some ⟨b, o, none⟩)) 1).run Try.prog w = .ok (.pointer (some ⟨b, o + 0, none⟩)) w := by
  simp [Instr.fieldAt, run_underlying Try.underlying47, Instr.sureAddr, fieldPlace, Try.sizeOf42, Addr.add_lit]
theorem fld_47_2 (b o : Nat) (w : World) : (Instr.fieldAt 47 (.pointer (some ⟨b, o, none⟩)) 2).run Try.prog w = .ok (.pointer (some ⟨b, o + 1, none⟩)) w := by
  simp [Instr.fieldAt, run_underlying Try.underlying47, Instr.sureAddr, fieldPlace, Try.sizeOf46, Addr.add_lit]
theorem fld_48_1 (b o : Nat) (w : World) : (Instr.fieldAt 48 (.pointer (some ⟨b, o, none⟩)) 1).run Try.prog w = .ok (.pointer (some ⟨b, o + 0, none⟩)) w := by
  simp [Instr.fieldAt, run_underlying Try.underlying48, Instr.sureAddr, fieldPlace, Try.sizeOf42, Addr.add_lit]
theorem fld_48_2 (b o : Nat) (w : World) : (Instr.fieldAt 48 (.pointer (some ⟨b, o, none⟩)) 2).run Try.prog w = .ok (.pointer (some ⟨b, o + 1, none⟩)) w := by
  simp [Instr.fieldAt, run_underlying Try.underlying48, Instr.sureAddr, fieldPlace, Try.sizeOf46, Addr.add_lit]
theorem fld_51_0 (b o : Nat) (w : World) : (Instr.fieldAt 51 (.pointer (some ⟨b, o, none⟩)) 0).run Try.prog w = .ok (.pointer (some ⟨b, o + 0, none⟩)) w := by
  simp [Instr.fieldAt, run_underlying Try.underlying51, Instr.sureAddr, fieldPlace, Try.sizeOf48, Addr.add_lit]
theorem fld_51_1 (b o : Nat) (w : World) : (Instr.fieldAt 51 (.pointer (some ⟨b, o, none⟩)) 1).run Try.prog w = .ok (.pointer (some ⟨b, o + 3, none⟩)) w := by
  simp [Instr.fieldAt, run_underlying Try.underlying51, Instr.sureAddr, fieldPlace, Try.sizeOf49, Addr.add_lit]
theorem fld_51_2 (b o : Nat) (w : World) : (Instr.fieldAt 51 (.pointer (some ⟨b, o, none⟩)) 2).run Try.prog w = .ok (.pointer (some ⟨b, o + 513, none⟩)) w := by
  simp [Instr.fieldAt, run_underlying Try.underlying51, Instr.sureAddr, fieldPlace, Try.sizeOf50, Addr.add_lit]
theorem fld_52_0 (b o : Nat) (w : World) : (Instr.fieldAt 52 (.pointer (some ⟨b, o, none⟩)) 0).run Try.prog w = .ok (.pointer (some ⟨b, o + 0, none⟩)) w := by
  simp [Instr.fieldAt, run_underlying Try.underlying52, Instr.sureAddr, fieldPlace, Try.sizeOf48, Addr.add_lit]
theorem fld_52_1 (b o : Nat) (w : World) : (Instr.fieldAt 52 (.pointer (some ⟨b, o, none⟩)) 1).run Try.prog w = .ok (.pointer (some ⟨b, o + 3, none⟩)) w := by
  simp [Instr.fieldAt, run_underlying Try.underlying52, Instr.sureAddr, fieldPlace, Try.sizeOf49, Addr.add_lit]
theorem fld_52_2 (b o : Nat) (w : World) : (Instr.fieldAt 52 (.pointer (some ⟨b, o, none⟩)) 2).run Try.prog w = .ok (.pointer (some ⟨b, o + 513, none⟩)) w := by
  simp [Instr.fieldAt, run_underlying Try.underlying52, Instr.sureAddr, fieldPlace, Try.sizeOf50, Addr.add_lit]
theorem fld_92_0 (b o : Nat) (w : World) : (Instr.fieldAt 92 (.pointer (some ⟨b, o, none⟩)) 0).run Try.prog w = .ok (.pointer (some ⟨b, o + 0, none⟩)) w := by
  simp [Instr.fieldAt, run_underlying Try.underlying92, Instr.sureAddr, fieldPlace, Try.sizeOf17, Addr.add_lit]
theorem fld_92_1 (b o : Nat) (w : World) : (Instr.fieldAt 92 (.pointer (some ⟨b, o, none⟩)) 1).run Try.prog w = .ok (.pointer (some ⟨b, o + 1, none⟩)) w := by
  simp [Instr.fieldAt, run_underlying Try.underlying92, Instr.sureAddr, fieldPlace, Try.sizeOf17, Addr.add_lit]
theorem fld_92_2 (b o : Nat) (w : World) : (Instr.fieldAt 92 (.pointer (some ⟨b, o, none⟩)) 2).run Try.prog w = .ok (.pointer (some ⟨b, o + 2, none⟩)) w := by
  simp [Instr.fieldAt, run_underlying Try.underlying92, Instr.sureAddr, fieldPlace, Try.sizeOf17, Addr.add_lit]
theorem fld_92_3 (b o : Nat) (w : World) : (Instr.fieldAt 92 (.pointer (some ⟨b, o, none⟩)) 3).run Try.prog w = .ok (.pointer (some ⟨b, o + 3, none⟩)) w := by
  simp [Instr.fieldAt, run_underlying Try.underlying92, Instr.sureAddr, fieldPlace, Try.sizeOf9, Addr.add_lit]
theorem fld_104_0 (b o : Nat) (w : World) : (Instr.fieldAt 104 (.pointer (some ⟨b, o, none⟩)) 0).run Try.prog w = .ok (.pointer (some ⟨b, o + 0, none⟩)) w := by
  simp [Instr.fieldAt, run_underlying Try.underlying104, Instr.sureAddr, fieldPlace, Try.sizeOf12, Addr.add_lit]
theorem fld_104_1 (b o : Nat) (w : World) : (Instr.fieldAt 104 (.pointer (some ⟨b, o, none⟩)) 1).run Try.prog w = .ok (.pointer (some ⟨b, o + 1, none⟩)) w := by
  simp [Instr.fieldAt, run_underlying Try.underlying104, Instr.sureAddr, fieldPlace, Try.sizeOf12, Addr.add_lit]
theorem fld_104_2 (b o : Nat) (w : World) : (Instr.fieldAt 104 (.pointer (some ⟨b, o, none⟩)) 2).run Try.prog w = .ok (.pointer (some ⟨b, o + 2, none⟩)) w := by
  simp [Instr.fieldAt, run_underlying Try.underlying104, Instr.sureAddr, fieldPlace, Try.sizeOf40, Addr.add_lit]
theorem fld_104_3 (b o : Nat) (w : World) : (Instr.fieldAt 104 (.pointer (some ⟨b, o, none⟩)) 3).run Try.prog w = .ok (.pointer (some ⟨b, o + 3, none⟩)) w := by
  simp [Instr.fieldAt, run_underlying Try.underlying104, Instr.sureAddr, fieldPlace, Try.sizeOf98, Addr.add_lit]
theorem fld_104_4 (b o : Nat) (w : World) : (Instr.fieldAt 104 (.pointer (some ⟨b, o, none⟩)) 4).run Try.prog w = .ok (.pointer (some ⟨b, o + 4, none⟩)) w := by
  simp [Instr.fieldAt, run_underlying Try.underlying104, Instr.sureAddr, fieldPlace, Try.sizeOf5, Addr.add_lit]
theorem fld_104_5 (b o : Nat) (w : World) : (Instr.fieldAt 104 (.pointer (some ⟨b, o, none⟩)) 5).run Try.prog w = .ok (.pointer (some ⟨b, o + 5, none⟩)) w := by
  simp [Instr.fieldAt, run_underlying Try.underlying104, Instr.sureAddr, fieldPlace, Try.sizeOf5, Addr.add_lit]
theorem fld_104_6 (b o : Nat) (w : World) : (Instr.fieldAt 104 (.pointer (some ⟨b, o, none⟩)) 6).run Try.prog w = .ok (.pointer (some ⟨b, o + 6, none⟩)) w := by
  simp [Instr.fieldAt, run_underlying Try.underlying104, Instr.sureAddr, fieldPlace, Try.sizeOf99, Addr.add_lit]
theorem fld_104_7 (b o : Nat) (w : World) : (Instr.fieldAt 104 (.pointer (some ⟨b, o, none⟩)) 7).run Try.prog w = .ok (.pointer (some ⟨b, o + 7, none⟩)) w := by
  simp [Instr.fieldAt, run_underlying Try.underlying104, Instr.sureAddr, fieldPlace, Try.sizeOf100, Addr.add_lit]
theorem fld_104_8 (b o : Nat) (w : World) : (Instr.fieldAt 104 (.pointer (some ⟨b, o, none⟩)) 8).run Try.prog w = .ok (.pointer (some ⟨b, o + 8, none⟩)) w := by
  simp [Instr.fieldAt, run_underlying Try.underlying104, Instr.sureAddr, fieldPlace, Try.sizeOf101, Addr.add_lit]
theorem fld_104_9 (b o : Nat) (w : World) : (Instr.fieldAt 104 (.pointer (some ⟨b, o, none⟩)) 9).run Try.prog w = .ok (.pointer (some ⟨b, o + 9, none⟩)) w := by
  simp [Instr.fieldAt, run_underlying Try.underlying104, Instr.sureAddr, fieldPlace, Try.sizeOf102, Addr.add_lit]
theorem fld_104_10 (b o : Nat) (w : World) : (Instr.fieldAt 104 (.pointer (some ⟨b, o, none⟩)) 10).run Try.prog w = .ok (.pointer (some ⟨b, o + 10, none⟩)) w := by
  simp [Instr.fieldAt, run_underlying Try.underlying104, Instr.sureAddr, fieldPlace, Try.sizeOf103, Addr.add_lit]
theorem info_3 : (Try.prog.info? 3).map (fun i => (i.zero, i.size, i.bytes)) = some (some (.int .i64 0), 1, 8) := by kernel_rfl
theorem info_5 : (Try.prog.info? 5).map (fun i => (i.zero, i.size, i.bytes)) = some (some (.int .u8 0), 1, 1) := by kernel_rfl
theorem info_28 : (Try.prog.info? 28).map (fun i => (i.zero, i.size, i.bytes)) = some (some (.slice none 0 0), 1, 24) := by kernel_rfl
theorem bld_65_0_1_2 (x0 : Int) (x1 : Int) (x2 : Int) (w : World) : (Instr.build 65 #[(0, .int .u8 x0), (1, .int .u8 x1), (2, .int .u8 x2)]).run Try.prog w = .ok (.agg #[.int .u8 x0, .int .u8 x1, .int .u8 x2]) w := by
  simp [Instr.build, run_underlying Try.underlying65, Try.zeroValue65, Instr.fill, Value.cells, Try.sizeOf5]
theorem mixed : Try.prog.follows .mixedOrders = true := by kernel_rfl
end Go.Proofs.Ytbbpgbdiifmkhaa
