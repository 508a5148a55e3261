/- The table of the seat's types and listed variables, off the loaded program. Conditions: none. -/
import Derived.Test.YtpjnngfjbcjikaaDoorProg
import Derived.Test.YtpjnngfjbcjikaaDoorEng9
import Derived.KernelRfl
import Derived.Lib.LaidTab
import Derived.Shelf.Strconv.Itoa3
namespace Go.Proofs.YtpjnngfjbcjikaaDoor
open Go Go.Abs
set_option maxRecDepth 100000
def te3 : TE := { t := 3, desc := Go.TypeDesc.int Go.IntKind.i64, size := 1, bytes := 8, zero := Go.Value.int Go.IntKind.i64 0 }
def te4 : TE := { t := 4, desc := Go.TypeDesc.bool, size := 1, bytes := 1, zero := Go.Value.bool false }
def te9 : TE := { t := 9, desc := Go.TypeDesc.string, size := 1, bytes := 16, zero := Go.Value.string { data := #[] } }
def te23 : TE := { t := 23, desc := Go.TypeDesc.struct #[{ name := "Kind", type := 3, offset := 0, embedded := false, tag := "", pkgPath := "", byteOffset := 0 }, { name := "N", type := 3, offset := 1, embedded := false, tag := "", pkgPath := "", byteOffset := 8 }, { name := "D", type := 3, offset := 2, embedded := false, tag := "", pkgPath := "", byteOffset := 16 }, { name := "S", type := 9, offset := 3, embedded := false, tag := "", pkgPath := "", byteOffset := 24 }, { name := "L", type := 22, offset := 4, embedded := false, tag := "", pkgPath := "", byteOffset := 40 }], size := 5, bytes := 64, zero := Go.Value.agg #[Go.Value.int Go.IntKind.i64 0, Go.Value.int Go.IntKind.i64 0, Go.Value.int Go.IntKind.i64 0, Go.Value.string { data := #[] }, Go.Value.slice Option.none 0 0] }
def te24 : TE := { t := 24, desc := Go.TypeDesc.struct #[{ name := "Kind", type := 3, offset := 0, embedded := false, tag := "", pkgPath := "", byteOffset := 0 }, { name := "N", type := 3, offset := 1, embedded := false, tag := "", pkgPath := "", byteOffset := 8 }, { name := "D", type := 3, offset := 2, embedded := false, tag := "", pkgPath := "", byteOffset := 16 }, { name := "S", type := 9, offset := 3, embedded := false, tag := "", pkgPath := "", byteOffset := 24 }, { name := "L", type := 22, offset := 4, embedded := false, tag := "", pkgPath := "", byteOffset := 40 }], size := 5, bytes := 64, zero := Go.Value.agg #[Go.Value.int Go.IntKind.i64 0, Go.Value.int Go.IntKind.i64 0, Go.Value.int Go.IntKind.i64 0, Go.Value.string { data := #[] }, Go.Value.slice Option.none 0 0] }
def te35 : TE := { t := 35, desc := Go.TypeDesc.struct #[{ name := "N", type := 3, offset := 0, embedded := false, tag := "", pkgPath := "", byteOffset := 0 }, { name := "D", type := 3, offset := 1, embedded := false, tag := "", pkgPath := "", byteOffset := 8 }], size := 2, bytes := 16, zero := Go.Value.agg #[Go.Value.int Go.IntKind.i64 0, Go.Value.int Go.IntKind.i64 0] }
def te36 : TE := { t := 36, desc := Go.TypeDesc.struct #[{ name := "N", type := 3, offset := 0, embedded := false, tag := "", pkgPath := "", byteOffset := 0 }, { name := "D", type := 3, offset := 1, embedded := false, tag := "", pkgPath := "", byteOffset := 8 }], size := 2, bytes := 16, zero := Go.Value.agg #[Go.Value.int Go.IntKind.i64 0, Go.Value.int Go.IntKind.i64 0] }
def te71 : TE := { t := 71, desc := Go.TypeDesc.struct #[{ name := "neg", type := 4, offset := 0, embedded := false, tag := "", pkgPath := "graphdb/frac", byteOffset := 0 }, { name := "hi", type := 70, offset := 1, embedded := false, tag := "", pkgPath := "graphdb/frac", byteOffset := 8 }, { name := "lo", type := 70, offset := 2, embedded := false, tag := "", pkgPath := "graphdb/frac", byteOffset := 16 }], size := 3, bytes := 24, zero := Go.Value.agg #[Go.Value.bool false, Go.Value.int Go.IntKind.u64 0, Go.Value.int Go.IntKind.u64 0] }
def te72 : TE := { t := 72, desc := Go.TypeDesc.struct #[{ name := "neg", type := 4, offset := 0, embedded := false, tag := "", pkgPath := "graphdb/frac", byteOffset := 0 }, { name := "hi", type := 70, offset := 1, embedded := false, tag := "", pkgPath := "graphdb/frac", byteOffset := 8 }, { name := "lo", type := 70, offset := 2, embedded := false, tag := "", pkgPath := "graphdb/frac", byteOffset := 16 }], size := 3, bytes := 24, zero := Go.Value.agg #[Go.Value.bool false, Go.Value.int Go.IntKind.u64 0, Go.Value.int Go.IntKind.u64 0] }
def te81 : TE := { t := 81, desc := Go.TypeDesc.struct #[{ name := "addr", type := 79, offset := 0, embedded := false, tag := "", pkgPath := "strings", byteOffset := 0 }, { name := "buf", type := 80, offset := 1, embedded := false, tag := "", pkgPath := "strings", byteOffset := 8 }], size := 2, bytes := 32, zero := Go.Value.agg #[Go.Value.pointer Option.none, Go.Value.slice Option.none 0 0] }
def te82 : TE := { t := 82, desc := Go.TypeDesc.struct #[{ name := "addr", type := 79, offset := 0, embedded := false, tag := "", pkgPath := "strings", byteOffset := 0 }, { name := "buf", type := 80, offset := 1, embedded := false, tag := "", pkgPath := "strings", byteOffset := 8 }], size := 2, bytes := 32, zero := Go.Value.agg #[Go.Value.pointer Option.none, Go.Value.slice Option.none 0 0] }
def te113 : TE := { t := 113, desc := Go.TypeDesc.struct #[{ name := "lo", type := 5, offset := 0, embedded := false, tag := "", pkgPath := "unicode/utf8", byteOffset := 0 }, { name := "hi", type := 5, offset := 1, embedded := false, tag := "", pkgPath := "unicode/utf8", byteOffset := 1 }], size := 2, bytes := 2, zero := Go.Value.agg #[Go.Value.int Go.IntKind.u8 0, Go.Value.int Go.IntKind.u8 0] }
def te114 : TE := { t := 114, desc := Go.TypeDesc.struct #[{ name := "lo", type := 5, offset := 0, embedded := false, tag := "", pkgPath := "unicode/utf8", byteOffset := 0 }, { name := "hi", type := 5, offset := 1, embedded := false, tag := "", pkgPath := "unicode/utf8", byteOffset := 1 }], size := 2, bytes := 2, zero := Go.Value.agg #[Go.Value.int Go.IntKind.u8 0, Go.Value.int Go.IntKind.u8 0] }
def te22 : TE := { t := 22, desc := Go.TypeDesc.slice 24, size := 1, bytes := 24, zero := Go.Value.slice Option.none 0 0 }
def te33 : TE := { t := 33, desc := Go.TypeDesc.slice 52, size := 1, bytes := 24, zero := Go.Value.slice Option.none 0 0 }
def te52 : TE := { t := 52, desc := Go.TypeDesc.slice 24, size := 1, bytes := 24, zero := Go.Value.slice Option.none 0 0 }
def te60 : TE := { t := 60, desc := Go.TypeDesc.slice 3, size := 1, bytes := 24, zero := Go.Value.slice Option.none 0 0 }
def te68 : TE := { t := 68, desc := Go.TypeDesc.slice 9, size := 1, bytes := 24, zero := Go.Value.slice Option.none 0 0 }
def te80 : TE := { t := 80, desc := Go.TypeDesc.slice 5, size := 1, bytes := 24, zero := Go.Value.slice Option.none 0 0 }
def te2 : TE := { t := 2, desc := Go.TypeDesc.int Go.IntKind.i64, size := 1, bytes := 8, zero := Go.Value.int Go.IntKind.i64 0 }
def te5 : TE := { t := 5, desc := Go.TypeDesc.int Go.IntKind.u8, size := 1, bytes := 1, zero := Go.Value.int Go.IntKind.u8 0 }
def te12 : TE := { t := 12, desc := Go.TypeDesc.int Go.IntKind.u64, size := 1, bytes := 8, zero := Go.Value.int Go.IntKind.u64 0 }
def te21 : TE := { t := 21, desc := Go.TypeDesc.int Go.IntKind.i32, size := 1, bytes := 4, zero := Go.Value.int Go.IntKind.i32 0 }
def te70 : TE := { t := 70, desc := Go.TypeDesc.int Go.IntKind.u64, size := 1, bytes := 8, zero := Go.Value.int Go.IntKind.u64 0 }
def te79 : TE := { t := 79, desc := Go.TypeDesc.pointer 82, size := 1, bytes := 8, zero := Go.Value.pointer Option.none }
def te103 : TE := { t := 103, desc := Go.TypeDesc.pointer 5, size := 1, bytes := 8, zero := Go.Value.pointer Option.none }
def te104 : TE := { t := 104, desc := Go.TypeDesc.int Go.IntKind.u64, size := 1, bytes := 8, zero := Go.Value.int Go.IntKind.u64 0 }
def te106 : TE := { t := 106, desc := Go.TypeDesc.int Go.IntKind.u32, size := 1, bytes := 4, zero := Go.Value.int Go.IntKind.u32 0 }
theorem ok3 : te3.ok Tryd.prog := ⟨Tryd.underlying3, Tryd.t3, Tryd.type3, rfl, rfl, rfl⟩
theorem ok4 : te4.ok Tryd.prog := ⟨Tryd.underlying4, Tryd.t4, Tryd.type4, rfl, rfl, rfl⟩
theorem ok9 : te9.ok Tryd.prog := ⟨Tryd.underlying9, Tryd.t9, Tryd.type9, rfl, rfl, rfl⟩
theorem ok23 : te23.ok Tryd.prog := ⟨Tryd.underlying23, Tryd.t23, Tryd.type23, rfl, rfl, rfl⟩
theorem ok24 : te24.ok Tryd.prog := ⟨Tryd.underlying24, Tryd.t24, Tryd.type24, rfl, rfl, rfl⟩
theorem ok35 : te35.ok Tryd.prog := ⟨Tryd.underlying35, Tryd.t35, Tryd.type35, rfl, rfl, rfl⟩
theorem ok36 : te36.ok Tryd.prog := ⟨Tryd.underlying36, Tryd.t36, Tryd.type36, rfl, rfl, rfl⟩
theorem ok71 : te71.ok Tryd.prog := ⟨Tryd.underlying71, Tryd.t71, Tryd.type71, rfl, rfl, rfl⟩
theorem ok72 : te72.ok Tryd.prog := ⟨Tryd.underlying72, Tryd.t72, Tryd.type72, rfl, rfl, rfl⟩
theorem ok81 : te81.ok Tryd.prog := ⟨Tryd.underlying81, Tryd.t81, Tryd.type81, rfl, rfl, rfl⟩
theorem ok82 : te82.ok Tryd.prog := ⟨Tryd.underlying82, Tryd.t82, Tryd.type82, rfl, rfl, rfl⟩
theorem ok113 : te113.ok Tryd.prog := ⟨Tryd.underlying113, Tryd.t113, Tryd.type113, rfl, rfl, rfl⟩
theorem ok114 : te114.ok Tryd.prog := ⟨Tryd.underlying114, Tryd.t114, Tryd.type114, rfl, rfl, rfl⟩
theorem ok22 : te22.ok Tryd.prog := ⟨Tryd.underlying22, Tryd.t22, Tryd.type22, rfl, rfl, rfl⟩
theorem ok33 : te33.ok Tryd.prog := ⟨Tryd.underlying33, Tryd.t33, Tryd.type33, rfl, rfl, rfl⟩
theorem ok52 : te52.ok Tryd.prog := ⟨Tryd.underlying52, Tryd.t52, Tryd.type52, rfl, rfl, rfl⟩
theorem ok60 : te60.ok Tryd.prog := ⟨Tryd.underlying60, Tryd.t60, Tryd.type60, rfl, rfl, rfl⟩
theorem ok68 : te68.ok Tryd.prog := ⟨Tryd.underlying68, Tryd.t68, Tryd.type68, rfl, rfl, rfl⟩
theorem ok80 : te80.ok Tryd.prog := ⟨Tryd.underlying80, Tryd.t80, Tryd.type80, rfl, rfl, rfl⟩
theorem ok2 : te2.ok Tryd.prog := ⟨Tryd.underlying2, Tryd.t2, Tryd.type2, rfl, rfl, rfl⟩
theorem ok5 : te5.ok Tryd.prog := ⟨Tryd.underlying5, Tryd.t5, Tryd.type5, rfl, rfl, rfl⟩
theorem ok12 : te12.ok Tryd.prog := ⟨Tryd.underlying12, Tryd.t12, Tryd.type12, rfl, rfl, rfl⟩
theorem ok21 : te21.ok Tryd.prog := ⟨Tryd.underlying21, Tryd.t21, Tryd.type21, rfl, rfl, rfl⟩
theorem ok70 : te70.ok Tryd.prog := ⟨Tryd.underlying70, Tryd.t70, Tryd.type70, rfl, rfl, rfl⟩
theorem ok79 : te79.ok Tryd.prog := ⟨Tryd.underlying79, Tryd.t79, Tryd.type79, rfl, rfl, rfl⟩
theorem ok103 : te103.ok Tryd.prog := ⟨Tryd.underlying103, Tryd.t103, Tryd.type103, rfl, rfl, rfl⟩
theorem ok104 : te104.ok Tryd.prog := ⟨Tryd.underlying104, Tryd.t104, Tryd.type104, rfl, rfl, rfl⟩
theorem ok106 : te106.ok Tryd.prog := ⟨Tryd.underlying106, Tryd.t106, Tryd.type106, rfl, rfl, rfl⟩
def seatT : List TE := [te3, te4, te9, te23, te24, te35, te36, te71, te72, te81, te82, te113, te114, te22, te33, te52, te60, te68, te80, te2, te5, te12, te21, te70, te79, te103, te104, te106]
theorem seatT_ok : ∀ e ∈ seatT, e.ok Tryd.prog := by
  unfold seatT
  refine List.forall_mem_cons.2 ⟨ok3, ?_⟩
  refine List.forall_mem_cons.2 ⟨ok4, ?_⟩
  refine List.forall_mem_cons.2 ⟨ok9, ?_⟩
  refine List.forall_mem_cons.2 ⟨ok23, ?_⟩
  refine List.forall_mem_cons.2 ⟨ok24, ?_⟩
  refine List.forall_mem_cons.2 ⟨ok35, ?_⟩
  refine List.forall_mem_cons.2 ⟨ok36, ?_⟩
  refine List.forall_mem_cons.2 ⟨ok71, ?_⟩
  refine List.forall_mem_cons.2 ⟨ok72, ?_⟩
  refine List.forall_mem_cons.2 ⟨ok81, ?_⟩
  refine List.forall_mem_cons.2 ⟨ok82, ?_⟩
  refine List.forall_mem_cons.2 ⟨ok113, ?_⟩
  refine List.forall_mem_cons.2 ⟨ok114, ?_⟩
  refine List.forall_mem_cons.2 ⟨ok22, ?_⟩
  refine List.forall_mem_cons.2 ⟨ok33, ?_⟩
  refine List.forall_mem_cons.2 ⟨ok52, ?_⟩
  refine List.forall_mem_cons.2 ⟨ok60, ?_⟩
  refine List.forall_mem_cons.2 ⟨ok68, ?_⟩
  refine List.forall_mem_cons.2 ⟨ok80, ?_⟩
  refine List.forall_mem_cons.2 ⟨ok2, ?_⟩
  refine List.forall_mem_cons.2 ⟨ok5, ?_⟩
  refine List.forall_mem_cons.2 ⟨ok12, ?_⟩
  refine List.forall_mem_cons.2 ⟨ok21, ?_⟩
  refine List.forall_mem_cons.2 ⟨ok70, ?_⟩
  refine List.forall_mem_cons.2 ⟨ok79, ?_⟩
  refine List.forall_mem_cons.2 ⟨ok103, ?_⟩
  refine List.forall_mem_cons.2 ⟨ok104, ?_⟩
  refine List.forall_mem_cons.2 ⟨ok106, ?_⟩
  intro e h; cases h
def seatG : List GE := [{ g := 0, x := .agg [.int 0, .int 1] }]
/-- The table of powers of ten is as laid, and the library's bound on lengths is some int. -/
def seatI (w : World) (F : Nat → Prop) : Prop := (F 1 ∧ Lib.TabIs Tryd.prog w "internal/strconv.uint64pow10" .u64 Lib.pow10Tab) ∧ (F 2 ∧ ∃ m : Int, w.cell? ⟨2, 0, none⟩ = some (.int .i64 m))
theorem seatI_mono : ∀ (w w' : World) (F F' : Nat → Prop), (∀ b, F b → F' b) → (∀ b, F b → w'.heap[b]? = w.heap[b]?) → seatI w F → seatI w' F' := by
  rintro w w' F F' hF hw ⟨h1, h2⟩
  refine ⟨?_, ?_⟩
  · obtain ⟨a, b⟩ := h1
    have hg : Program.globalNamed Tryd.prog "internal/strconv.uint64pow10" = some 1 := by kernel_rfl
    refine ⟨hF _ a, ?_⟩
    unfold Lib.TabIs World.var? at b ⊢
    rw [hg] at b ⊢
    simp only [Option.bind_some] at b ⊢
    rw [hw _ a]
    exact b
  · obtain ⟨a, m, b⟩ := h2
    exact ⟨hF _ a, m, by rw [World.cell?_of_block (hw _ a)]; exact b⟩
theorem seatM : Tryd.prog.follows .mixedOrders = true := by kernel_rfl
noncomputable def E : Env := { P := Tryd.prog, T := seatT, G := seatG, hT := seatT_ok, hM := seatM, I := seatI, hI := seatI_mono }
theorem b2 : HasBody E 2 := by intro args w; dsimp only [E]; exact Tryd.call2 args w
theorem b3 : HasBody E 3 := by intro args w; dsimp only [E]; exact Tryd.call3 args w
theorem b4 : HasBody E 4 := by intro args w; dsimp only [E]; exact Tryd.call4 args w
theorem b5 : HasBody E 5 := by intro args w; dsimp only [E]; exact Tryd.call5 args w
theorem b6 : HasBody E 6 := by intro args w; dsimp only [E]; exact Tryd.call6 args w
theorem b7 : HasBody E 7 := by intro args w; dsimp only [E]; exact Tryd.call7 args w
theorem b8 : HasBody E 8 := by intro args w; dsimp only [E]; exact Tryd.call8 args w
theorem b9 : HasBody E 9 := by intro args w; dsimp only [E]; exact Tryd.call9 args w
theorem b10 : HasBody E 10 := by intro args w; dsimp only [E]; exact Tryd.call10 args w
theorem b11 : HasBody E 11 := by intro args w; dsimp only [E]; exact Tryd.call11 args w
theorem b12 : HasBody E 12 := by intro args w; dsimp only [E]; exact Tryd.call12 args w
theorem b13 : HasBody E 13 := by intro args w; dsimp only [E]; exact Tryd.call13 args w
theorem b14 : HasBody E 14 := by intro args w; dsimp only [E]; exact Tryd.call14 args w
theorem b15 : HasBody E 15 := by intro args w; dsimp only [E]; exact Tryd.call15 args w
theorem b16 : HasBody E 16 := by intro args w; dsimp only [E]; exact Tryd.call16 args w
theorem b17 : HasBody E 17 := by intro args w; dsimp only [E]; exact Tryd.call17 args w
theorem b18 : HasBody E 18 := by intro args w; dsimp only [E]; exact Tryd.call18 args w
theorem b19 : HasBody E 19 := by intro args w; dsimp only [E]; exact Tryd.call19 args w
theorem b20 : HasBody E 20 := by intro args w; dsimp only [E]; exact Tryd.call20 args w
theorem b21 : HasBody E 21 := by intro args w; dsimp only [E]; exact Tryd.call21 args w
theorem b22 : HasBody E 22 := by intro args w; dsimp only [E]; exact Tryd.call22 args w
theorem b23 : HasBody E 23 := by intro args w; dsimp only [E]; exact Tryd.call23 args w
theorem b24 : HasBody E 24 := by intro args w; dsimp only [E]; exact Tryd.call24 args w
theorem b25 : HasBody E 25 := by intro args w; dsimp only [E]; exact Tryd.call25 args w
theorem b26 : HasBody E 26 := by intro args w; dsimp only [E]; exact Tryd.call26 args w
theorem b27 : HasBody E 27 := by intro args w; dsimp only [E]; exact Tryd.call27 args w
theorem b28 : HasBody E 28 := by intro args w; dsimp only [E]; exact Tryd.call28 args w
theorem b29 : HasBody E 29 := by intro args w; dsimp only [E]; exact Tryd.call29 args w
theorem b30 : HasBody E 30 := by intro args w; dsimp only [E]; exact Tryd.call30 args w
theorem b31 : HasBody E 31 := by intro args w; dsimp only [E]; exact Tryd.call31 args w
theorem b32 : HasBody E 32 := by intro args w; dsimp only [E]; exact Tryd.call32 args w
theorem b33 : HasBody E 33 := by intro args w; dsimp only [E]; exact Tryd.call33 args w
theorem b34 : HasBody E 34 := by intro args w; dsimp only [E]; exact Tryd.call34 args w
theorem b35 : HasBody E 35 := by intro args w; dsimp only [E]; exact Tryd.call35 args w
theorem b36 : HasBody E 36 := by intro args w; dsimp only [E]; exact Tryd.call36 args w
theorem b37 : HasBody E 37 := by intro args w; dsimp only [E]; exact Tryd.call37 args w
theorem b38 : HasBody E 38 := by intro args w; dsimp only [E]; exact Tryd.call38 args w
theorem b39 : HasBody E 39 := by intro args w; dsimp only [E]; exact Tryd.call39 args w
theorem b40 : HasBody E 40 := by intro args w; dsimp only [E]; exact Tryd.call40 args w
theorem b41 : HasBody E 41 := by intro args w; dsimp only [E]; exact Tryd.call41 args w
theorem b42 : HasBody E 42 := by intro args w; dsimp only [E]; exact Tryd.call42 args w
theorem b43 : HasBody E 43 := by intro args w; dsimp only [E]; exact Tryd.call43 args w
theorem b44 : HasBody E 44 := by intro args w; dsimp only [E]; exact Tryd.call44 args w
theorem b45 : HasBody E 45 := by intro args w; dsimp only [E]; exact Tryd.call45 args w
theorem b46 : HasBody E 46 := by intro args w; dsimp only [E]; exact Tryd.call46 args w
theorem b47 : HasBody E 47 := by intro args w; dsimp only [E]; exact Tryd.call47 args w
theorem b48 : HasBody E 48 := by intro args w; dsimp only [E]; exact Tryd.call48 args w
theorem b49 : HasBody E 49 := by intro args w; dsimp only [E]; exact Tryd.call49 args w
theorem b50 : HasBody E 50 := by intro args w; dsimp only [E]; exact Tryd.call50 args w
theorem b51 : HasBody E 51 := by intro args w; dsimp only [E]; exact Tryd.call51 args w
theorem b52 : HasBody E 52 := by intro args w; dsimp only [E]; exact Tryd.call52 args w
theorem b53 : HasBody E 53 := by intro args w; dsimp only [E]; exact Tryd.call53 args w
theorem b54 : HasBody E 54 := by intro args w; dsimp only [E]; exact Tryd.call54 args w
theorem b55 : HasBody E 55 := by intro args w; dsimp only [E]; exact Tryd.call55 args w
theorem b56 : HasBody E 56 := by intro args w; dsimp only [E]; exact Tryd.call56 args w
theorem b57 : HasBody E 57 := by intro args w; dsimp only [E]; exact Tryd.call57 args w
theorem b58 : HasBody E 58 := by intro args w; dsimp only [E]; exact Tryd.call58 args w
theorem b59 : HasBody E 59 := by intro args w; dsimp only [E]; exact Tryd.call59 args w
theorem b60 : HasBody E 60 := by intro args w; dsimp only [E]; exact Tryd.call60 args w
theorem b61 : HasBody E 61 := by intro args w; dsimp only [E]; exact Tryd.call61 args w
theorem b62 : HasBody E 62 := by intro args w; dsimp only [E]; exact Tryd.call62 args w
theorem b63 : HasBody E 63 := by intro args w; dsimp only [E]; exact Tryd.call63 args w
theorem b64 : HasBody E 64 := by intro args w; dsimp only [E]; exact Tryd.call64 args w
theorem b65 : HasBody E 65 := by intro args w; dsimp only [E]; exact Tryd.call65 args w
theorem b66 : HasBody E 66 := by intro args w; dsimp only [E]; exact Tryd.call66 args w
theorem b68 : HasBody E 68 := by intro args w; dsimp only [E]; exact Tryd.call68 args w
theorem b70 : HasBody E 70 := by intro args w; dsimp only [E]; exact Tryd.call70 args w
theorem b71 : HasBody E 71 := by intro args w; dsimp only [E]; exact Tryd.call71 args w
theorem b72 : HasBody E 72 := by intro args w; dsimp only [E]; exact Tryd.call72 args w
theorem b73 : HasBody E 73 := by intro args w; dsimp only [E]; exact Tryd.call73 args w
theorem b74 : HasBody E 74 := by intro args w; dsimp only [E]; exact Tryd.call74 args w
theorem b75 : HasBody E 75 := by intro args w; dsimp only [E]; exact Tryd.call75 args w
theorem b77 : HasBody E 77 := by intro args w; dsimp only [E]; exact Tryd.call77 args w
theorem b78 : HasBody E 78 := by intro args w; dsimp only [E]; exact Tryd.call78 args w
theorem b79 : HasBody E 79 := by intro args w; dsimp only [E]; exact Tryd.call79 args w
theorem b80 : HasBody E 80 := by intro args w; dsimp only [E]; exact Tryd.call80 args w
theorem b81 : HasBody E 81 := by intro args w; dsimp only [E]; exact Tryd.call81 args w
theorem b82 : HasBody E 82 := by intro args w; dsimp only [E]; exact Tryd.call82 args w
theorem b83 : HasBody E 83 := by intro args w; dsimp only [E]; exact Tryd.call83 args w
theorem b84 : HasBody E 84 := by intro args w; dsimp only [E]; exact Tryd.call84 args w
theorem b85 : HasBody E 85 := by intro args w; dsimp only [E]; exact Tryd.call85 args w
theorem b88 : HasBody E 88 := by intro args w; dsimp only [E]; exact Tryd.call88 args w
theorem b90 : HasBody E 90 := by intro args w; dsimp only [E]; exact Tryd.call90 args w
theorem b91 : HasBody E 91 := by intro args w; dsimp only [E]; exact Tryd.call91 args w
theorem b92 : HasBody E 92 := by intro args w; dsimp only [E]; exact Tryd.call92 args w
theorem b93 : HasBody E 93 := by intro args w; dsimp only [E]; exact Tryd.call93 args w
theorem b95 : HasBody E 95 := by intro args w; dsimp only [E]; exact Tryd.call95 args w
theorem b121 : HasBody E 121 := by intro args w; dsimp only [E]; exact Tryd.call121 args w
end Go.Proofs.YtpjnngfjbcjikaaDoor
