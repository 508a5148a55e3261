/- The table of the seat's types and listed variables, off the loaded program. Conditions: none. -/
import Derived.Test.YtpjnngfjbcjikaaGreatDoorProg
import Derived.Test.YtpjnngfjbcjikaaGreatDoorEng9
import Derived.KernelRfl
import Derived.Lib.LaidTab
import Derived.Shelf.Strconv.Itoa3
namespace Go.Proofs.YtpjnngfjbcjikaaGreatDoor
open Go Go.Abs
set_option maxRecDepth 100000
def te3 : TE := { t := 3, desc := Go.TypeDesc.int Go.IntKind.i64, size := 1, bytes := 8, zero := Go.Value.int Go.IntKind.i64 0 }
def te4 : TE := { t := 4, desc := Go.TypeDesc.bool, size := 1, bytes := 1, zero := Go.Value.bool false }
def te9 : TE := { t := 9, desc := Go.TypeDesc.string, size := 1, bytes := 16, zero := Go.Value.string { data := #[] } }
def te23 : TE := { t := 23, desc := Go.TypeDesc.struct #[{ name := "Kind", type := 3, offset := 0, embedded := false, tag := "", pkgPath := "", byteOffset := 0 }, { name := "N", type := 3, offset := 1, embedded := false, tag := "", pkgPath := "", byteOffset := 8 }, { name := "D", type := 3, offset := 2, embedded := false, tag := "", pkgPath := "", byteOffset := 16 }, { name := "S", type := 9, offset := 3, embedded := false, tag := "", pkgPath := "", byteOffset := 24 }, { name := "L", type := 22, offset := 4, embedded := false, tag := "", pkgPath := "", byteOffset := 40 }], size := 5, bytes := 64, zero := Go.Value.agg #[Go.Value.int Go.IntKind.i64 0, Go.Value.int Go.IntKind.i64 0, Go.Value.int Go.IntKind.i64 0, Go.Value.string { data := #[] }, Go.Value.slice Option.none 0 0] }
def te24 : TE := { t := 24, desc := Go.TypeDesc.struct #[{ name := "Kind", type := 3, offset := 0, embedded := false, tag := "", pkgPath := "", byteOffset := 0 }, { name := "N", type := 3, offset := 1, embedded := false, tag := "", pkgPath := "", byteOffset := 8 }, { name := "D", type := 3, offset := 2, embedded := false, tag := "", pkgPath := "", byteOffset := 16 }, { name := "S", type := 9, offset := 3, embedded := false, tag := "", pkgPath := "", byteOffset := 24 }, { name := "L", type := 22, offset := 4, embedded := false, tag := "", pkgPath := "", byteOffset := 40 }], size := 5, bytes := 64, zero := Go.Value.agg #[Go.Value.int Go.IntKind.i64 0, Go.Value.int Go.IntKind.i64 0, Go.Value.int Go.IntKind.i64 0, Go.Value.string { data := #[] }, Go.Value.slice Option.none 0 0] }
def te29 : TE := { t := 29, desc := Go.TypeDesc.struct #[{ name := "N", type := 3, offset := 0, embedded := false, tag := "", pkgPath := "", byteOffset := 0 }, { name := "D", type := 3, offset := 1, embedded := false, tag := "", pkgPath := "", byteOffset := 8 }], size := 2, bytes := 16, zero := Go.Value.agg #[Go.Value.int Go.IntKind.i64 0, Go.Value.int Go.IntKind.i64 0] }
def te30 : TE := { t := 30, desc := Go.TypeDesc.struct #[{ name := "N", type := 3, offset := 0, embedded := false, tag := "", pkgPath := "", byteOffset := 0 }, { name := "D", type := 3, offset := 1, embedded := false, tag := "", pkgPath := "", byteOffset := 8 }], size := 2, bytes := 16, zero := Go.Value.agg #[Go.Value.int Go.IntKind.i64 0, Go.Value.int Go.IntKind.i64 0] }
def te79 : TE := { t := 79, desc := Go.TypeDesc.struct #[{ name := "neg", type := 4, offset := 0, embedded := false, tag := "", pkgPath := "graphdb/frac", byteOffset := 0 }, { name := "hi", type := 78, offset := 1, embedded := false, tag := "", pkgPath := "graphdb/frac", byteOffset := 8 }, { name := "lo", type := 78, offset := 2, embedded := false, tag := "", pkgPath := "graphdb/frac", byteOffset := 16 }], size := 3, bytes := 24, zero := Go.Value.agg #[Go.Value.bool false, Go.Value.int Go.IntKind.u64 0, Go.Value.int Go.IntKind.u64 0] }
def te80 : TE := { t := 80, desc := Go.TypeDesc.struct #[{ name := "neg", type := 4, offset := 0, embedded := false, tag := "", pkgPath := "graphdb/frac", byteOffset := 0 }, { name := "hi", type := 78, offset := 1, embedded := false, tag := "", pkgPath := "graphdb/frac", byteOffset := 8 }, { name := "lo", type := 78, offset := 2, embedded := false, tag := "", pkgPath := "graphdb/frac", byteOffset := 16 }], size := 3, bytes := 24, zero := Go.Value.agg #[Go.Value.bool false, Go.Value.int Go.IntKind.u64 0, Go.Value.int Go.IntKind.u64 0] }
def te106 : TE := { t := 106, desc := Go.TypeDesc.struct #[{ name := "addr", type := 105, offset := 0, embedded := false, tag := "", pkgPath := "strings", byteOffset := 0 }, { name := "buf", type := 94, offset := 1, embedded := false, tag := "", pkgPath := "strings", byteOffset := 8 }], size := 2, bytes := 32, zero := Go.Value.agg #[Go.Value.pointer Option.none, Go.Value.slice Option.none 0 0] }
def te107 : TE := { t := 107, desc := Go.TypeDesc.struct #[{ name := "addr", type := 105, offset := 0, embedded := false, tag := "", pkgPath := "strings", byteOffset := 0 }, { name := "buf", type := 94, offset := 1, embedded := false, tag := "", pkgPath := "strings", byteOffset := 8 }], size := 2, bytes := 32, zero := Go.Value.agg #[Go.Value.pointer Option.none, Go.Value.slice Option.none 0 0] }
def te135 : TE := { t := 135, desc := Go.TypeDesc.struct #[{ name := "lo", type := 5, offset := 0, embedded := false, tag := "", pkgPath := "unicode/utf8", byteOffset := 0 }, { name := "hi", type := 5, offset := 1, embedded := false, tag := "", pkgPath := "unicode/utf8", byteOffset := 1 }], size := 2, bytes := 2, zero := Go.Value.agg #[Go.Value.int Go.IntKind.u8 0, Go.Value.int Go.IntKind.u8 0] }
def te136 : TE := { t := 136, desc := Go.TypeDesc.struct #[{ name := "lo", type := 5, offset := 0, embedded := false, tag := "", pkgPath := "unicode/utf8", byteOffset := 0 }, { name := "hi", type := 5, offset := 1, embedded := false, tag := "", pkgPath := "unicode/utf8", byteOffset := 1 }], size := 2, bytes := 2, zero := Go.Value.agg #[Go.Value.int Go.IntKind.u8 0, Go.Value.int Go.IntKind.u8 0] }
def te22 : TE := { t := 22, desc := Go.TypeDesc.slice 24, size := 1, bytes := 24, zero := Go.Value.slice Option.none 0 0 }
def te46 : TE := { t := 46, desc := Go.TypeDesc.slice 24, size := 1, bytes := 24, zero := Go.Value.slice Option.none 0 0 }
def te48 : TE := { t := 48, desc := Go.TypeDesc.slice 46, size := 1, bytes := 24, zero := Go.Value.slice Option.none 0 0 }
def te74 : TE := { t := 74, desc := Go.TypeDesc.slice 3, size := 1, bytes := 24, zero := Go.Value.slice Option.none 0 0 }
def te92 : TE := { t := 92, desc := Go.TypeDesc.slice 9, size := 1, bytes := 24, zero := Go.Value.slice Option.none 0 0 }
def te94 : TE := { t := 94, desc := Go.TypeDesc.slice 5, size := 1, bytes := 24, zero := Go.Value.slice Option.none 0 0 }
def te2 : TE := { t := 2, desc := Go.TypeDesc.int Go.IntKind.i64, size := 1, bytes := 8, zero := Go.Value.int Go.IntKind.i64 0 }
def te5 : TE := { t := 5, desc := Go.TypeDesc.int Go.IntKind.u8, size := 1, bytes := 1, zero := Go.Value.int Go.IntKind.u8 0 }
def te12 : TE := { t := 12, desc := Go.TypeDesc.int Go.IntKind.u64, size := 1, bytes := 8, zero := Go.Value.int Go.IntKind.u64 0 }
def te21 : TE := { t := 21, desc := Go.TypeDesc.int Go.IntKind.i32, size := 1, bytes := 4, zero := Go.Value.int Go.IntKind.i32 0 }
def te78 : TE := { t := 78, desc := Go.TypeDesc.int Go.IntKind.u64, size := 1, bytes := 8, zero := Go.Value.int Go.IntKind.u64 0 }
def te105 : TE := { t := 105, desc := Go.TypeDesc.pointer 107, size := 1, bytes := 8, zero := Go.Value.pointer Option.none }
def te118 : TE := { t := 118, desc := Go.TypeDesc.int Go.IntKind.u64, size := 1, bytes := 8, zero := Go.Value.int Go.IntKind.u64 0 }
def te126 : TE := { t := 126, desc := Go.TypeDesc.pointer 5, size := 1, bytes := 8, zero := Go.Value.pointer Option.none }
def te128 : TE := { t := 128, desc := Go.TypeDesc.int Go.IntKind.u32, size := 1, bytes := 4, zero := Go.Value.int Go.IntKind.u32 0 }
theorem ok3 : te3.ok Tryz.prog := ⟨Tryz.underlying3, Tryz.t3, Tryz.type3, rfl, rfl, rfl⟩
theorem ok4 : te4.ok Tryz.prog := ⟨Tryz.underlying4, Tryz.t4, Tryz.type4, rfl, rfl, rfl⟩
theorem ok9 : te9.ok Tryz.prog := ⟨Tryz.underlying9, Tryz.t9, Tryz.type9, rfl, rfl, rfl⟩
theorem ok23 : te23.ok Tryz.prog := ⟨Tryz.underlying23, Tryz.t23, Tryz.type23, rfl, rfl, rfl⟩
theorem ok24 : te24.ok Tryz.prog := ⟨Tryz.underlying24, Tryz.t24, Tryz.type24, rfl, rfl, rfl⟩
theorem ok29 : te29.ok Tryz.prog := ⟨Tryz.underlying29, Tryz.t29, Tryz.type29, rfl, rfl, rfl⟩
theorem ok30 : te30.ok Tryz.prog := ⟨Tryz.underlying30, Tryz.t30, Tryz.type30, rfl, rfl, rfl⟩
theorem ok79 : te79.ok Tryz.prog := ⟨Tryz.underlying79, Tryz.t79, Tryz.type79, rfl, rfl, rfl⟩
theorem ok80 : te80.ok Tryz.prog := ⟨Tryz.underlying80, Tryz.t80, Tryz.type80, rfl, rfl, rfl⟩
theorem ok106 : te106.ok Tryz.prog := ⟨Tryz.underlying106, Tryz.t106, Tryz.type106, rfl, rfl, rfl⟩
theorem ok107 : te107.ok Tryz.prog := ⟨Tryz.underlying107, Tryz.t107, Tryz.type107, rfl, rfl, rfl⟩
theorem ok135 : te135.ok Tryz.prog := ⟨Tryz.underlying135, Tryz.t135, Tryz.type135, rfl, rfl, rfl⟩
theorem ok136 : te136.ok Tryz.prog := ⟨Tryz.underlying136, Tryz.t136, Tryz.type136, rfl, rfl, rfl⟩
theorem ok22 : te22.ok Tryz.prog := ⟨Tryz.underlying22, Tryz.t22, Tryz.type22, rfl, rfl, rfl⟩
theorem ok46 : te46.ok Tryz.prog := ⟨Tryz.underlying46, Tryz.t46, Tryz.type46, rfl, rfl, rfl⟩
theorem ok48 : te48.ok Tryz.prog := ⟨Tryz.underlying48, Tryz.t48, Tryz.type48, rfl, rfl, rfl⟩
theorem ok74 : te74.ok Tryz.prog := ⟨Tryz.underlying74, Tryz.t74, Tryz.type74, rfl, rfl, rfl⟩
theorem ok92 : te92.ok Tryz.prog := ⟨Tryz.underlying92, Tryz.t92, Tryz.type92, rfl, rfl, rfl⟩
theorem ok94 : te94.ok Tryz.prog := ⟨Tryz.underlying94, Tryz.t94, Tryz.type94, rfl, rfl, rfl⟩
theorem ok2 : te2.ok Tryz.prog := ⟨Tryz.underlying2, Tryz.t2, Tryz.type2, rfl, rfl, rfl⟩
theorem ok5 : te5.ok Tryz.prog := ⟨Tryz.underlying5, Tryz.t5, Tryz.type5, rfl, rfl, rfl⟩
theorem ok12 : te12.ok Tryz.prog := ⟨Tryz.underlying12, Tryz.t12, Tryz.type12, rfl, rfl, rfl⟩
theorem ok21 : te21.ok Tryz.prog := ⟨Tryz.underlying21, Tryz.t21, Tryz.type21, rfl, rfl, rfl⟩
theorem ok78 : te78.ok Tryz.prog := ⟨Tryz.underlying78, Tryz.t78, Tryz.type78, rfl, rfl, rfl⟩
theorem ok105 : te105.ok Tryz.prog := ⟨Tryz.underlying105, Tryz.t105, Tryz.type105, rfl, rfl, rfl⟩
theorem ok118 : te118.ok Tryz.prog := ⟨Tryz.underlying118, Tryz.t118, Tryz.type118, rfl, rfl, rfl⟩
theorem ok126 : te126.ok Tryz.prog := ⟨Tryz.underlying126, Tryz.t126, Tryz.type126, rfl, rfl, rfl⟩
theorem ok128 : te128.ok Tryz.prog := ⟨Tryz.underlying128, Tryz.t128, Tryz.type128, rfl, rfl, rfl⟩
def seatT : List TE := [te3, te4, te9, te23, te24, te29, te30, te79, te80, te106, te107, te135, te136, te22, te46, te48, te74, te92, te94, te2, te5, te12, te21, te78, te105, te118, te126, te128]
theorem seatT_ok : ∀ e ∈ seatT, e.ok Tryz.prog := by
  unfold seatT
  refine List.forall_mem_cons.2 ⟨ok3, ?_⟩
  refine List.forall_mem_cons.2 ⟨ok4, ?_⟩
  refine List.forall_mem_cons.2 ⟨ok9, ?_⟩
  refine List.forall_mem_cons.2 ⟨ok23, ?_⟩
  refine List.forall_mem_cons.2 ⟨ok24, ?_⟩
  refine List.forall_mem_cons.2 ⟨ok29, ?_⟩
  refine List.forall_mem_cons.2 ⟨ok30, ?_⟩
  refine List.forall_mem_cons.2 ⟨ok79, ?_⟩
  refine List.forall_mem_cons.2 ⟨ok80, ?_⟩
  refine List.forall_mem_cons.2 ⟨ok106, ?_⟩
  refine List.forall_mem_cons.2 ⟨ok107, ?_⟩
  refine List.forall_mem_cons.2 ⟨ok135, ?_⟩
  refine List.forall_mem_cons.2 ⟨ok136, ?_⟩
  refine List.forall_mem_cons.2 ⟨ok22, ?_⟩
  refine List.forall_mem_cons.2 ⟨ok46, ?_⟩
  refine List.forall_mem_cons.2 ⟨ok48, ?_⟩
  refine List.forall_mem_cons.2 ⟨ok74, ?_⟩
  refine List.forall_mem_cons.2 ⟨ok92, ?_⟩
  refine List.forall_mem_cons.2 ⟨ok94, ?_⟩
  refine List.forall_mem_cons.2 ⟨ok2, ?_⟩
  refine List.forall_mem_cons.2 ⟨ok5, ?_⟩
  refine List.forall_mem_cons.2 ⟨ok12, ?_⟩
  refine List.forall_mem_cons.2 ⟨ok21, ?_⟩
  refine List.forall_mem_cons.2 ⟨ok78, ?_⟩
  refine List.forall_mem_cons.2 ⟨ok105, ?_⟩
  refine List.forall_mem_cons.2 ⟨ok118, ?_⟩
  refine List.forall_mem_cons.2 ⟨ok126, ?_⟩
  refine List.forall_mem_cons.2 ⟨ok128, ?_⟩
  intro e h; cases h
def seatG : List GE := [{ g := 0, x := .agg [.int 0, .int 1] }]
/-- The table of powers of ten is as laid, and the library's bound on lengths is some int. -/
def seatI (w : World) (F : Nat → Prop) : Prop := (F 1 ∧ Lib.TabIs Tryz.prog w "internal/strconv.uint64pow10" .u64 Lib.pow10Tab) ∧ (F 2 ∧ ∃ m : Int, w.cell? ⟨2, 0, none⟩ = some (.int .i64 m))
theorem seatI_mono : ∀ (w w' : World) (F F' : Nat → Prop), (∀ b, F b → F' b) → (∀ b, F b → w'.heap[b]? = w.heap[b]?) → seatI w F → seatI w' F' := by
  rintro w w' F F' hF hw ⟨h1, h2⟩
  refine ⟨?_, ?_⟩
  · obtain ⟨a, b⟩ := h1
    have hg : Program.globalNamed Tryz.prog "internal/strconv.uint64pow10" = some 1 := by kernel_rfl
    refine ⟨hF _ a, ?_⟩
    unfold Lib.TabIs World.var? at b ⊢
    rw [hg] at b ⊢
    simp only [Option.bind_some] at b ⊢
    rw [hw _ a]
    exact b
  · obtain ⟨a, m, b⟩ := h2
    exact ⟨hF _ a, m, by rw [World.cell?_of_block (hw _ a)]; exact b⟩
theorem seatM : Tryz.prog.follows .mixedOrders = true := by kernel_rfl
noncomputable def E : Env := { P := Tryz.prog, T := seatT, G := seatG, hT := seatT_ok, hM := seatM, I := seatI, hI := seatI_mono }
theorem b2 : HasBody E 2 := by intro args w; dsimp only [E]; exact Tryz.call2 args w
theorem b3 : HasBody E 3 := by intro args w; dsimp only [E]; exact Tryz.call3 args w
theorem b4 : HasBody E 4 := by intro args w; dsimp only [E]; exact Tryz.call4 args w
theorem b5 : HasBody E 5 := by intro args w; dsimp only [E]; exact Tryz.call5 args w
theorem b6 : HasBody E 6 := by intro args w; dsimp only [E]; exact Tryz.call6 args w
theorem b7 : HasBody E 7 := by intro args w; dsimp only [E]; exact Tryz.call7 args w
theorem b8 : HasBody E 8 := by intro args w; dsimp only [E]; exact Tryz.call8 args w
theorem b9 : HasBody E 9 := by intro args w; dsimp only [E]; exact Tryz.call9 args w
theorem b10 : HasBody E 10 := by intro args w; dsimp only [E]; exact Tryz.call10 args w
theorem b11 : HasBody E 11 := by intro args w; dsimp only [E]; exact Tryz.call11 args w
theorem b12 : HasBody E 12 := by intro args w; dsimp only [E]; exact Tryz.call12 args w
theorem b13 : HasBody E 13 := by intro args w; dsimp only [E]; exact Tryz.call13 args w
theorem b14 : HasBody E 14 := by intro args w; dsimp only [E]; exact Tryz.call14 args w
theorem b15 : HasBody E 15 := by intro args w; dsimp only [E]; exact Tryz.call15 args w
theorem b16 : HasBody E 16 := by intro args w; dsimp only [E]; exact Tryz.call16 args w
theorem b17 : HasBody E 17 := by intro args w; dsimp only [E]; exact Tryz.call17 args w
theorem b18 : HasBody E 18 := by intro args w; dsimp only [E]; exact Tryz.call18 args w
theorem b19 : HasBody E 19 := by intro args w; dsimp only [E]; exact Tryz.call19 args w
theorem b20 : HasBody E 20 := by intro args w; dsimp only [E]; exact Tryz.call20 args w
theorem b21 : HasBody E 21 := by intro args w; dsimp only [E]; exact Tryz.call21 args w
theorem b22 : HasBody E 22 := by intro args w; dsimp only [E]; exact Tryz.call22 args w
theorem b23 : HasBody E 23 := by intro args w; dsimp only [E]; exact Tryz.call23 args w
theorem b24 : HasBody E 24 := by intro args w; dsimp only [E]; exact Tryz.call24 args w
theorem b25 : HasBody E 25 := by intro args w; dsimp only [E]; exact Tryz.call25 args w
theorem b26 : HasBody E 26 := by intro args w; dsimp only [E]; exact Tryz.call26 args w
theorem b27 : HasBody E 27 := by intro args w; dsimp only [E]; exact Tryz.call27 args w
theorem b28 : HasBody E 28 := by intro args w; dsimp only [E]; exact Tryz.call28 args w
theorem b29 : HasBody E 29 := by intro args w; dsimp only [E]; exact Tryz.call29 args w
theorem b30 : HasBody E 30 := by intro args w; dsimp only [E]; exact Tryz.call30 args w
theorem b31 : HasBody E 31 := by intro args w; dsimp only [E]; exact Tryz.call31 args w
theorem b32 : HasBody E 32 := by intro args w; dsimp only [E]; exact Tryz.call32 args w
theorem b33 : HasBody E 33 := by intro args w; dsimp only [E]; exact Tryz.call33 args w
theorem b34 : HasBody E 34 := by intro args w; dsimp only [E]; exact Tryz.call34 args w
theorem b35 : HasBody E 35 := by intro args w; dsimp only [E]; exact Tryz.call35 args w
theorem b36 : HasBody E 36 := by intro args w; dsimp only [E]; exact Tryz.call36 args w
theorem b37 : HasBody E 37 := by intro args w; dsimp only [E]; exact Tryz.call37 args w
theorem b38 : HasBody E 38 := by intro args w; dsimp only [E]; exact Tryz.call38 args w
theorem b39 : HasBody E 39 := by intro args w; dsimp only [E]; exact Tryz.call39 args w
theorem b40 : HasBody E 40 := by intro args w; dsimp only [E]; exact Tryz.call40 args w
theorem b41 : HasBody E 41 := by intro args w; dsimp only [E]; exact Tryz.call41 args w
theorem b42 : HasBody E 42 := by intro args w; dsimp only [E]; exact Tryz.call42 args w
theorem b43 : HasBody E 43 := by intro args w; dsimp only [E]; exact Tryz.call43 args w
theorem b44 : HasBody E 44 := by intro args w; dsimp only [E]; exact Tryz.call44 args w
theorem b45 : HasBody E 45 := by intro args w; dsimp only [E]; exact Tryz.call45 args w
theorem b46 : HasBody E 46 := by intro args w; dsimp only [E]; exact Tryz.call46 args w
theorem b47 : HasBody E 47 := by intro args w; dsimp only [E]; exact Tryz.call47 args w
theorem b48 : HasBody E 48 := by intro args w; dsimp only [E]; exact Tryz.call48 args w
theorem b49 : HasBody E 49 := by intro args w; dsimp only [E]; exact Tryz.call49 args w
theorem b50 : HasBody E 50 := by intro args w; dsimp only [E]; exact Tryz.call50 args w
theorem b51 : HasBody E 51 := by intro args w; dsimp only [E]; exact Tryz.call51 args w
theorem b52 : HasBody E 52 := by intro args w; dsimp only [E]; exact Tryz.call52 args w
theorem b53 : HasBody E 53 := by intro args w; dsimp only [E]; exact Tryz.call53 args w
theorem b54 : HasBody E 54 := by intro args w; dsimp only [E]; exact Tryz.call54 args w
theorem b55 : HasBody E 55 := by intro args w; dsimp only [E]; exact Tryz.call55 args w
theorem b56 : HasBody E 56 := by intro args w; dsimp only [E]; exact Tryz.call56 args w
theorem b57 : HasBody E 57 := by intro args w; dsimp only [E]; exact Tryz.call57 args w
theorem b58 : HasBody E 58 := by intro args w; dsimp only [E]; exact Tryz.call58 args w
theorem b59 : HasBody E 59 := by intro args w; dsimp only [E]; exact Tryz.call59 args w
theorem b60 : HasBody E 60 := by intro args w; dsimp only [E]; exact Tryz.call60 args w
theorem b61 : HasBody E 61 := by intro args w; dsimp only [E]; exact Tryz.call61 args w
theorem b62 : HasBody E 62 := by intro args w; dsimp only [E]; exact Tryz.call62 args w
theorem b63 : HasBody E 63 := by intro args w; dsimp only [E]; exact Tryz.call63 args w
theorem b64 : HasBody E 64 := by intro args w; dsimp only [E]; exact Tryz.call64 args w
theorem b65 : HasBody E 65 := by intro args w; dsimp only [E]; exact Tryz.call65 args w
theorem b66 : HasBody E 66 := by intro args w; dsimp only [E]; exact Tryz.call66 args w
theorem b67 : HasBody E 67 := by intro args w; dsimp only [E]; exact Tryz.call67 args w
theorem b68 : HasBody E 68 := by intro args w; dsimp only [E]; exact Tryz.call68 args w
theorem b69 : HasBody E 69 := by intro args w; dsimp only [E]; exact Tryz.call69 args w
theorem b70 : HasBody E 70 := by intro args w; dsimp only [E]; exact Tryz.call70 args w
theorem b71 : HasBody E 71 := by intro args w; dsimp only [E]; exact Tryz.call71 args w
theorem b72 : HasBody E 72 := by intro args w; dsimp only [E]; exact Tryz.call72 args w
theorem b73 : HasBody E 73 := by intro args w; dsimp only [E]; exact Tryz.call73 args w
theorem b74 : HasBody E 74 := by intro args w; dsimp only [E]; exact Tryz.call74 args w
theorem b75 : HasBody E 75 := by intro args w; dsimp only [E]; exact Tryz.call75 args w
theorem b76 : HasBody E 76 := by intro args w; dsimp only [E]; exact Tryz.call76 args w
theorem b77 : HasBody E 77 := by intro args w; dsimp only [E]; exact Tryz.call77 args w
theorem b78 : HasBody E 78 := by intro args w; dsimp only [E]; exact Tryz.call78 args w
theorem b79 : HasBody E 79 := by intro args w; dsimp only [E]; exact Tryz.call79 args w
theorem b80 : HasBody E 80 := by intro args w; dsimp only [E]; exact Tryz.call80 args w
theorem b81 : HasBody E 81 := by intro args w; dsimp only [E]; exact Tryz.call81 args w
theorem b82 : HasBody E 82 := by intro args w; dsimp only [E]; exact Tryz.call82 args w
theorem b83 : HasBody E 83 := by intro args w; dsimp only [E]; exact Tryz.call83 args w
theorem b84 : HasBody E 84 := by intro args w; dsimp only [E]; exact Tryz.call84 args w
theorem b85 : HasBody E 85 := by intro args w; dsimp only [E]; exact Tryz.call85 args w
theorem b86 : HasBody E 86 := by intro args w; dsimp only [E]; exact Tryz.call86 args w
theorem b87 : HasBody E 87 := by intro args w; dsimp only [E]; exact Tryz.call87 args w
theorem b88 : HasBody E 88 := by intro args w; dsimp only [E]; exact Tryz.call88 args w
theorem b89 : HasBody E 89 := by intro args w; dsimp only [E]; exact Tryz.call89 args w
theorem b90 : HasBody E 90 := by intro args w; dsimp only [E]; exact Tryz.call90 args w
theorem b91 : HasBody E 91 := by intro args w; dsimp only [E]; exact Tryz.call91 args w
theorem b92 : HasBody E 92 := by intro args w; dsimp only [E]; exact Tryz.call92 args w
theorem b93 : HasBody E 93 := by intro args w; dsimp only [E]; exact Tryz.call93 args w
theorem b94 : HasBody E 94 := by intro args w; dsimp only [E]; exact Tryz.call94 args w
theorem b95 : HasBody E 95 := by intro args w; dsimp only [E]; exact Tryz.call95 args w
theorem b96 : HasBody E 96 := by intro args w; dsimp only [E]; exact Tryz.call96 args w
theorem b97 : HasBody E 97 := by intro args w; dsimp only [E]; exact Tryz.call97 args w
theorem b98 : HasBody E 98 := by intro args w; dsimp only [E]; exact Tryz.call98 args w
theorem b99 : HasBody E 99 := by intro args w; dsimp only [E]; exact Tryz.call99 args w
theorem b100 : HasBody E 100 := by intro args w; dsimp only [E]; exact Tryz.call100 args w
theorem b101 : HasBody E 101 := by intro args w; dsimp only [E]; exact Tryz.call101 args w
theorem b102 : HasBody E 102 := by intro args w; dsimp only [E]; exact Tryz.call102 args w
theorem b103 : HasBody E 103 := by intro args w; dsimp only [E]; exact Tryz.call103 args w
theorem b104 : HasBody E 104 := by intro args w; dsimp only [E]; exact Tryz.call104 args w
theorem b105 : HasBody E 105 := by intro args w; dsimp only [E]; exact Tryz.call105 args w
theorem b106 : HasBody E 106 := by intro args w; dsimp only [E]; exact Tryz.call106 args w
theorem b107 : HasBody E 107 := by intro args w; dsimp only [E]; exact Tryz.call107 args w
theorem b108 : HasBody E 108 := by intro args w; dsimp only [E]; exact Tryz.call108 args w
theorem b109 : HasBody E 109 := by intro args w; dsimp only [E]; exact Tryz.call109 args w
theorem b110 : HasBody E 110 := by intro args w; dsimp only [E]; exact Tryz.call110 args w
theorem b111 : HasBody E 111 := by intro args w; dsimp only [E]; exact Tryz.call111 args w
theorem b112 : HasBody E 112 := by intro args w; dsimp only [E]; exact Tryz.call112 args w
theorem b113 : HasBody E 113 := by intro args w; dsimp only [E]; exact Tryz.call113 args w
theorem b114 : HasBody E 114 := by intro args w; dsimp only [E]; exact Tryz.call114 args w
theorem b115 : HasBody E 115 := by intro args w; dsimp only [E]; exact Tryz.call115 args w
theorem b116 : HasBody E 116 := by intro args w; dsimp only [E]; exact Tryz.call116 args w
theorem b117 : HasBody E 117 := by intro args w; dsimp only [E]; exact Tryz.call117 args w
theorem b118 : HasBody E 118 := by intro args w; dsimp only [E]; exact Tryz.call118 args w
theorem b119 : HasBody E 119 := by intro args w; dsimp only [E]; exact Tryz.call119 args w
theorem b120 : HasBody E 120 := by intro args w; dsimp only [E]; exact Tryz.call120 args w
theorem b121 : HasBody E 121 := by intro args w; dsimp only [E]; exact Tryz.call121 args w
theorem b122 : HasBody E 122 := by intro args w; dsimp only [E]; exact Tryz.call122 args w
theorem b123 : HasBody E 123 := by intro args w; dsimp only [E]; exact Tryz.call123 args w
theorem b124 : HasBody E 124 := by intro args w; dsimp only [E]; exact Tryz.call124 args w
theorem b125 : HasBody E 125 := by intro args w; dsimp only [E]; exact Tryz.call125 args w
theorem b126 : HasBody E 126 := by intro args w; dsimp only [E]; exact Tryz.call126 args w
theorem b127 : HasBody E 127 := by intro args w; dsimp only [E]; exact Tryz.call127 args w
theorem b128 : HasBody E 128 := by intro args w; dsimp only [E]; exact Tryz.call128 args w
theorem b130 : HasBody E 130 := by intro args w; dsimp only [E]; exact Tryz.call130 args w
theorem b132 : HasBody E 132 := by intro args w; dsimp only [E]; exact Tryz.call132 args w
theorem b133 : HasBody E 133 := by intro args w; dsimp only [E]; exact Tryz.call133 args w
theorem b134 : HasBody E 134 := by intro args w; dsimp only [E]; exact Tryz.call134 args w
theorem b135 : HasBody E 135 := by intro args w; dsimp only [E]; exact Tryz.call135 args w
theorem b136 : HasBody E 136 := by intro args w; dsimp only [E]; exact Tryz.call136 args w
theorem b137 : HasBody E 137 := by intro args w; dsimp only [E]; exact Tryz.call137 args w
theorem b138 : HasBody E 138 := by intro args w; dsimp only [E]; exact Tryz.call138 args w
theorem b139 : HasBody E 139 := by intro args w; dsimp only [E]; exact Tryz.call139 args w
theorem b140 : HasBody E 140 := by intro args w; dsimp only [E]; exact Tryz.call140 args w
theorem b141 : HasBody E 141 := by intro args w; dsimp only [E]; exact Tryz.call141 args w
theorem b142 : HasBody E 142 := by intro args w; dsimp only [E]; exact Tryz.call142 args w
theorem b143 : HasBody E 143 := by intro args w; dsimp only [E]; exact Tryz.call143 args w
theorem b144 : HasBody E 144 := by intro args w; dsimp only [E]; exact Tryz.call144 args w
theorem b145 : HasBody E 145 := by intro args w; dsimp only [E]; exact Tryz.call145 args w
theorem b146 : HasBody E 146 := by intro args w; dsimp only [E]; exact Tryz.call146 args w
theorem b147 : HasBody E 147 := by intro args w; dsimp only [E]; exact Tryz.call147 args w
theorem b149 : HasBody E 149 := by intro args w; dsimp only [E]; exact Tryz.call149 args w
theorem b150 : HasBody E 150 := by intro args w; dsimp only [E]; exact Tryz.call150 args w
theorem b151 : HasBody E 151 := by intro args w; dsimp only [E]; exact Tryz.call151 args w
theorem b152 : HasBody E 152 := by intro args w; dsimp only [E]; exact Tryz.call152 args w
theorem b153 : HasBody E 153 := by intro args w; dsimp only [E]; exact Tryz.call153 args w
theorem b154 : HasBody E 154 := by intro args w; dsimp only [E]; exact Tryz.call154 args w
theorem b155 : HasBody E 155 := by intro args w; dsimp only [E]; exact Tryz.call155 args w
theorem b156 : HasBody E 156 := by intro args w; dsimp only [E]; exact Tryz.call156 args w
theorem b157 : HasBody E 157 := by intro args w; dsimp only [E]; exact Tryz.call157 args w
theorem b158 : HasBody E 158 := by intro args w; dsimp only [E]; exact Tryz.call158 args w
theorem b161 : HasBody E 161 := by intro args w; dsimp only [E]; exact Tryz.call161 args w
theorem b163 : HasBody E 163 := by intro args w; dsimp only [E]; exact Tryz.call163 args w
theorem b164 : HasBody E 164 := by intro args w; dsimp only [E]; exact Tryz.call164 args w
theorem b165 : HasBody E 165 := by intro args w; dsimp only [E]; exact Tryz.call165 args w
theorem b166 : HasBody E 166 := by intro args w; dsimp only [E]; exact Tryz.call166 args w
theorem b167 : HasBody E 167 := by intro args w; dsimp only [E]; exact Tryz.call167 args w
theorem b169 : HasBody E 169 := by intro args w; dsimp only [E]; exact Tryz.call169 args w
theorem b195 : HasBody E 195 := by intro args w; dsimp only [E]; exact Tryz.call195 args w
end Go.Proofs.YtpjnngfjbcjikaaGreatDoor
