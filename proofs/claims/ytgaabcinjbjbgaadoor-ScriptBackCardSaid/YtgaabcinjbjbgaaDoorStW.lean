/- Reading of moves, the program's side: what the functions leave to be shown (W); printed by a program of ours (wip/tools). -/
import Derived.Test.YtgaabcinjbjbgaaDoorM25
import Derived.Test.YtgaabcinjbjbgaaDoorM36
import Derived.Test.YtgaabcinjbjbgaaDoorM26

namespace Go.RX.St
open Go.RX Go.Proofs
noncomputable def cxW : Ctx := { T := TT, FT := FT, pure := Sc.pure }
set_option maxRecDepth 100000
noncomputable def fm_form1 : F := runF cxW 20 ([SV.int (Go.IntKind.u8) (E.lit 1)]) ([]) ({ b := 0, v := 0, i := 0, a := 0, bo := 0, p := 0, r := 0 }) Tryd.f20
def st_form1 (_ : Program) (Post : Value → List HP → Prop) : Prop :=
 ∀ _ : V1, Post (.tuple #[.string ⟨#[100, 105, 97, 108]⟩, .string ⟨#[100, 110]⟩, .bool true]) []
theorem vc_form1 (P : Program) (Post : Value → List HP → Prop) (L : Nat → LC) : VC P (fun v _ => Post v []) fm_form1 { iv := [], av := [], bo := [], bv := [], vv := [] } L = st_form1 P Post := by kernel_rfl
theorem run_form1 : runF cxW 20 ([SV.int (Go.IntKind.u8) (E.lit 1)]) ([]) ({ b := 0, v := 0, i := 0, a := 0, bo := 0, p := 0, r := 0 }) Tryd.f20 = fm_form1 := rfl
noncomputable def fm_form2 : F := runF cxW 20 ([SV.int (Go.IntKind.u8) (E.lit 2)]) ([]) ({ b := 0, v := 0, i := 0, a := 0, bo := 0, p := 0, r := 0 }) Tryd.f20
def st_form2 (_ : Program) (Post : Value → List HP → Prop) : Prop :=
 ∀ _ : V1, Post (.tuple #[.string ⟨#[97, 110, 115, 119, 101, 114]⟩, .string ⟨#[100]⟩, .bool true]) []
theorem vc_form2 (P : Program) (Post : Value → List HP → Prop) (L : Nat → LC) : VC P (fun v _ => Post v []) fm_form2 { iv := [], av := [], bo := [], bv := [], vv := [] } L = st_form2 P Post := by kernel_rfl
theorem run_form2 : runF cxW 20 ([SV.int (Go.IntKind.u8) (E.lit 2)]) ([]) ({ b := 0, v := 0, i := 0, a := 0, bo := 0, p := 0, r := 0 }) Tryd.f20 = fm_form2 := rfl
noncomputable def fm_form3 : F := runF cxW 20 ([SV.int (Go.IntKind.u8) (E.lit 3)]) ([]) ({ b := 0, v := 0, i := 0, a := 0, bo := 0, p := 0, r := 0 }) Tryd.f20
def st_form3 (_ : Program) (Post : Value → List HP → Prop) : Prop :=
 ∀ _ : V1, Post (.tuple #[.string ⟨#[100, 101, 99, 108, 105, 110, 101]⟩, .string ⟨#[100]⟩, .bool true]) []
theorem vc_form3 (P : Program) (Post : Value → List HP → Prop) (L : Nat → LC) : VC P (fun v _ => Post v []) fm_form3 { iv := [], av := [], bo := [], bv := [], vv := [] } L = st_form3 P Post := by kernel_rfl
theorem run_form3 : runF cxW 20 ([SV.int (Go.IntKind.u8) (E.lit 3)]) ([]) ({ b := 0, v := 0, i := 0, a := 0, bo := 0, p := 0, r := 0 }) Tryd.f20 = fm_form3 := rfl
noncomputable def fm_form4 : F := runF cxW 20 ([SV.int (Go.IntKind.u8) (E.lit 4)]) ([]) ({ b := 0, v := 0, i := 0, a := 0, bo := 0, p := 0, r := 0 }) Tryd.f20
def st_form4 (_ : Program) (Post : Value → List HP → Prop) : Prop :=
 ∀ _ : V1, Post (.tuple #[.string ⟨#[104, 97, 110, 103]⟩, .string ⟨#[100]⟩, .bool true]) []
theorem vc_form4 (P : Program) (Post : Value → List HP → Prop) (L : Nat → LC) : VC P (fun v _ => Post v []) fm_form4 { iv := [], av := [], bo := [], bv := [], vv := [] } L = st_form4 P Post := by kernel_rfl
theorem run_form4 : runF cxW 20 ([SV.int (Go.IntKind.u8) (E.lit 4)]) ([]) ({ b := 0, v := 0, i := 0, a := 0, bo := 0, p := 0, r := 0 }) Tryd.f20 = fm_form4 := rfl
noncomputable def fm_form5 : F := runF cxW 20 ([SV.int (Go.IntKind.u8) (E.lit 5)]) ([]) ({ b := 0, v := 0, i := 0, a := 0, bo := 0, p := 0, r := 0 }) Tryd.f20
def st_form5 (_ : Program) (Post : Value → List HP → Prop) : Prop :=
 ∀ _ : V1, Post (.tuple #[.string ⟨#[116, 105, 99, 107]⟩, .string ⟨#[110]⟩, .bool true]) []
theorem vc_form5 (P : Program) (Post : Value → List HP → Prop) (L : Nat → LC) : VC P (fun v _ => Post v []) fm_form5 { iv := [], av := [], bo := [], bv := [], vv := [] } L = st_form5 P Post := by kernel_rfl
theorem run_form5 : runF cxW 20 ([SV.int (Go.IntKind.u8) (E.lit 5)]) ([]) ({ b := 0, v := 0, i := 0, a := 0, bo := 0, p := 0, r := 0 }) Tryd.f20 = fm_form5 := rfl
noncomputable def fm_form6 : F := runF cxW 20 ([SV.int (Go.IntKind.u8) (E.lit 6)]) ([]) ({ b := 0, v := 0, i := 0, a := 0, bo := 0, p := 0, r := 0 }) Tryd.f20
def st_form6 (_ : Program) (Post : Value → List HP → Prop) : Prop :=
 ∀ _ : V1, Post (.tuple #[.string ⟨#[100, 101, 108, 105, 118, 101, 114]⟩, .string ⟨#[110]⟩, .bool true]) []
theorem vc_form6 (P : Program) (Post : Value → List HP → Prop) (L : Nat → LC) : VC P (fun v _ => Post v []) fm_form6 { iv := [], av := [], bo := [], bv := [], vv := [] } L = st_form6 P Post := by kernel_rfl
theorem run_form6 : runF cxW 20 ([SV.int (Go.IntKind.u8) (E.lit 6)]) ([]) ({ b := 0, v := 0, i := 0, a := 0, bo := 0, p := 0, r := 0 }) Tryd.f20 = fm_form6 := rfl
noncomputable def fm_form7 : F := runF cxW 20 ([SV.int (Go.IntKind.u8) (E.lit 7)]) ([]) ({ b := 0, v := 0, i := 0, a := 0, bo := 0, p := 0, r := 0 }) Tryd.f20
def st_form7 (_ : Program) (Post : Value → List HP → Prop) : Prop :=
 ∀ _ : V1, Post (.tuple #[.string ⟨#[100, 114, 111, 112]⟩, .string ⟨#[110]⟩, .bool true]) []
theorem vc_form7 (P : Program) (Post : Value → List HP → Prop) (L : Nat → LC) : VC P (fun v _ => Post v []) fm_form7 { iv := [], av := [], bo := [], bv := [], vv := [] } L = st_form7 P Post := by kernel_rfl
theorem run_form7 : runF cxW 20 ([SV.int (Go.IntKind.u8) (E.lit 7)]) ([]) ({ b := 0, v := 0, i := 0, a := 0, bo := 0, p := 0, r := 0 }) Tryd.f20 = fm_form7 := rfl
noncomputable def fm_form8 : F := runF cxW 20 ([SV.int (Go.IntKind.u8) (E.lit 8)]) ([]) ({ b := 0, v := 0, i := 0, a := 0, bo := 0, p := 0, r := 0 }) Tryd.f20
def st_form8 (_ : Program) (Post : Value → List HP → Prop) : Prop :=
 ∀ _ : V1, Post (.tuple #[.string ⟨#[100, 111, 117, 98, 108, 101]⟩, .string ⟨#[110]⟩, .bool true]) []
theorem vc_form8 (P : Program) (Post : Value → List HP → Prop) (L : Nat → LC) : VC P (fun v _ => Post v []) fm_form8 { iv := [], av := [], bo := [], bv := [], vv := [] } L = st_form8 P Post := by kernel_rfl
theorem run_form8 : runF cxW 20 ([SV.int (Go.IntKind.u8) (E.lit 8)]) ([]) ({ b := 0, v := 0, i := 0, a := 0, bo := 0, p := 0, r := 0 }) Tryd.f20 = fm_form8 := rfl
noncomputable def fm_form9 : F := runF cxW 20 ([SV.int (Go.IntKind.u8) (E.lit 9)]) ([]) ({ b := 0, v := 0, i := 0, a := 0, bo := 0, p := 0, r := 0 }) Tryd.f20
def st_form9 (_ : Program) (Post : Value → List HP → Prop) : Prop :=
 ∀ _ : V1, Post (.tuple #[.string ⟨#[116, 97, 109, 112, 101, 114]⟩, .string ⟨#[110, 99]⟩, .bool true]) []
theorem vc_form9 (P : Program) (Post : Value → List HP → Prop) (L : Nat → LC) : VC P (fun v _ => Post v []) fm_form9 { iv := [], av := [], bo := [], bv := [], vv := [] } L = st_form9 P Post := by kernel_rfl
theorem run_form9 : runF cxW 20 ([SV.int (Go.IntKind.u8) (E.lit 9)]) ([]) ({ b := 0, v := 0, i := 0, a := 0, bo := 0, p := 0, r := 0 }) Tryd.f20 = fm_form9 := rfl
noncomputable def fm_form10 : F := runF cxW 20 ([SV.int (Go.IntKind.u8) (E.lit 10)]) ([]) ({ b := 0, v := 0, i := 0, a := 0, bo := 0, p := 0, r := 0 }) Tryd.f20
def st_form10 (_ : Program) (Post : Value → List HP → Prop) : Prop :=
 ∀ _ : V1, Post (.tuple #[.string ⟨#[105, 110, 106, 101, 99, 116]⟩, .string ⟨#[100, 98]⟩, .bool true]) []
theorem vc_form10 (P : Program) (Post : Value → List HP → Prop) (L : Nat → LC) : VC P (fun v _ => Post v []) fm_form10 { iv := [], av := [], bo := [], bv := [], vv := [] } L = st_form10 P Post := by kernel_rfl
theorem run_form10 : runF cxW 20 ([SV.int (Go.IntKind.u8) (E.lit 10)]) ([]) ({ b := 0, v := 0, i := 0, a := 0, bo := 0, p := 0, r := 0 }) Tryd.f20 = fm_form10 := rfl
noncomputable def fm_form11 : F := runF cxW 20 ([SV.int (Go.IntKind.u8) (E.lit 11)]) ([]) ({ b := 0, v := 0, i := 0, a := 0, bo := 0, p := 0, r := 0 }) Tryd.f20
def st_form11 (_ : Program) (Post : Value → List HP → Prop) : Prop :=
 ∀ _ : V1, Post (.tuple #[.string ⟨#[99, 114, 101, 97, 116, 101]⟩, .string ⟨#[100]⟩, .bool true]) []
theorem vc_form11 (P : Program) (Post : Value → List HP → Prop) (L : Nat → LC) : VC P (fun v _ => Post v []) fm_form11 { iv := [], av := [], bo := [], bv := [], vv := [] } L = st_form11 P Post := by kernel_rfl
theorem run_form11 : runF cxW 20 ([SV.int (Go.IntKind.u8) (E.lit 11)]) ([]) ({ b := 0, v := 0, i := 0, a := 0, bo := 0, p := 0, r := 0 }) Tryd.f20 = fm_form11 := rfl
noncomputable def fm_form12 : F := runF cxW 20 ([SV.int (Go.IntKind.u8) (E.lit 12)]) ([]) ({ b := 0, v := 0, i := 0, a := 0, bo := 0, p := 0, r := 0 }) Tryd.f20
def st_form12 (_ : Program) (Post : Value → List HP → Prop) : Prop :=
 ∀ _ : V1, Post (.tuple #[.string ⟨#[97, 100, 100]⟩, .string ⟨#[100, 112]⟩, .bool true]) []
theorem vc_form12 (P : Program) (Post : Value → List HP → Prop) (L : Nat → LC) : VC P (fun v _ => Post v []) fm_form12 { iv := [], av := [], bo := [], bv := [], vv := [] } L = st_form12 P Post := by kernel_rfl
theorem run_form12 : runF cxW 20 ([SV.int (Go.IntKind.u8) (E.lit 12)]) ([]) ({ b := 0, v := 0, i := 0, a := 0, bo := 0, p := 0, r := 0 }) Tryd.f20 = fm_form12 := rfl
noncomputable def fm_form13 : F := runF cxW 20 ([SV.int (Go.IntKind.u8) (E.lit 13)]) ([]) ({ b := 0, v := 0, i := 0, a := 0, bo := 0, p := 0, r := 0 }) Tryd.f20
def st_form13 (_ : Program) (Post : Value → List HP → Prop) : Prop :=
 ∀ _ : V1, Post (.tuple #[.string ⟨#[107, 105, 99, 107]⟩, .string ⟨#[100, 112]⟩, .bool true]) []
theorem vc_form13 (P : Program) (Post : Value → List HP → Prop) (L : Nat → LC) : VC P (fun v _ => Post v []) fm_form13 { iv := [], av := [], bo := [], bv := [], vv := [] } L = st_form13 P Post := by kernel_rfl
theorem run_form13 : runF cxW 20 ([SV.int (Go.IntKind.u8) (E.lit 13)]) ([]) ({ b := 0, v := 0, i := 0, a := 0, bo := 0, p := 0, r := 0 }) Tryd.f20 = fm_form13 := rfl
noncomputable def fm_form14 : F := runF cxW 20 ([SV.int (Go.IntKind.u8) (E.lit 14)]) ([]) ({ b := 0, v := 0, i := 0, a := 0, bo := 0, p := 0, r := 0 }) Tryd.f20
def st_form14 (_ : Program) (Post : Value → List HP → Prop) : Prop :=
 ∀ _ : V1, Post (.tuple #[.string ⟨#[108, 101, 97, 118, 101]⟩, .string ⟨#[100]⟩, .bool true]) []
theorem vc_form14 (P : Program) (Post : Value → List HP → Prop) (L : Nat → LC) : VC P (fun v _ => Post v []) fm_form14 { iv := [], av := [], bo := [], bv := [], vv := [] } L = st_form14 P Post := by kernel_rfl
theorem run_form14 : runF cxW 20 ([SV.int (Go.IntKind.u8) (E.lit 14)]) ([]) ({ b := 0, v := 0, i := 0, a := 0, bo := 0, p := 0, r := 0 }) Tryd.f20 = fm_form14 := rfl
noncomputable def fm_form15 : F := runF cxW 20 ([SV.int (Go.IntKind.u8) (E.lit 15)]) ([]) ({ b := 0, v := 0, i := 0, a := 0, bo := 0, p := 0, r := 0 }) Tryd.f20
def st_form15 (_ : Program) (Post : Value → List HP → Prop) : Prop :=
 ∀ _ : V1, Post (.tuple #[.string ⟨#[102, 114, 97, 109, 101]⟩, .string ⟨#[100, 98]⟩, .bool true]) []
theorem vc_form15 (P : Program) (Post : Value → List HP → Prop) (L : Nat → LC) : VC P (fun v _ => Post v []) fm_form15 { iv := [], av := [], bo := [], bv := [], vv := [] } L = st_form15 P Post := by kernel_rfl
theorem run_form15 : runF cxW 20 ([SV.int (Go.IntKind.u8) (E.lit 15)]) ([]) ({ b := 0, v := 0, i := 0, a := 0, bo := 0, p := 0, r := 0 }) Tryd.f20 = fm_form15 := rfl
noncomputable def fm_form16 : F := runF cxW 20 ([SV.int (Go.IntKind.u8) (E.lit 16)]) ([]) ({ b := 0, v := 0, i := 0, a := 0, bo := 0, p := 0, r := 0 }) Tryd.f20
def st_form16 (_ : Program) (Post : Value → List HP → Prop) : Prop :=
 ∀ _ : V1, Post (.tuple #[.string ⟨#[]⟩, .string ⟨#[]⟩, .bool false]) []
theorem vc_form16 (P : Program) (Post : Value → List HP → Prop) (L : Nat → LC) : VC P (fun v _ => Post v []) fm_form16 { iv := [], av := [], bo := [], bv := [], vv := [] } L = st_form16 P Post := by kernel_rfl
theorem run_form16 : runF cxW 20 ([SV.int (Go.IntKind.u8) (E.lit 16)]) ([]) ({ b := 0, v := 0, i := 0, a := 0, bo := 0, p := 0, r := 0 }) Tryd.f20 = fm_form16 := rfl
end Go.RX.St
