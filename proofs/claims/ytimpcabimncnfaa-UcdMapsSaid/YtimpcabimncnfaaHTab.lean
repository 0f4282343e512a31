/- Proved here, by hand: the literal tables of package api (Classes, Assigned, Nothing, Spaces, Prohibited, Accents, rows), each handed back in new memory. -/
import Derived.Test.YtimpcabimncnfaaHRun
namespace Go.Proofs.Ytimpcabimncnfaa.M
set_option linter.unusedVariables false
set_option linter.unusedSimpArgs false
open Go.RowKit Go.Proofs.YtimpcabimncnfaaW.PrintWords Go.Proofs.YtimpcabimncnfaaW.PrintLast Go.Proofs.YtimpcabimncnfaaW.PrintMore
def cells26 (x : S26) : List Value := [.int .i64 x.f0, .int .i64 x.f1, .int .i64 x.f2]
def cells41 (x : S41) : List Value := [.int .i64 x.f0, .int .i64 x.f1, .int .i64 x.f2]
def cells57 (x : S57) : List Value := [.int .i64 x.f0, .string x.f1, .string x.f2]
/-! ### api_Classes -/
def api_Classes.tbl : List S26 := [⟨768, 788, 230⟩, ⟨789, 789, 232⟩, ⟨790, 793, 220⟩, ⟨795, 795, 216⟩, ⟨796, 800, 220⟩, ⟨801, 802, 202⟩, ⟨803, 806, 220⟩, ⟨807, 808, 202⟩, ⟨809, 819, 220⟩, ⟨820, 824, 1⟩, ⟨825, 828, 220⟩, ⟨829, 836, 230⟩, ⟨837, 837, 240⟩, ⟨838, 838, 230⟩, ⟨839, 841, 220⟩, ⟨1456, 1456, 10⟩, ⟨1457, 1457, 11⟩, ⟨1460, 1460, 14⟩, ⟨1468, 1468, 21⟩, ⟨1473, 1473, 24⟩, ⟨1474, 1474, 25⟩, ⟨2364, 2364, 7⟩, ⟨2381, 2381, 9⟩, ⟨8400, 8401, 230⟩, ⟨12441, 12442, 8⟩, ⟨65056, 65059, 230⟩]
def api_Classes.f : Option (List S26) := some api_Classes.tbl
theorem api_Classes.calls (r : List S26) (w : World) (h : api_Classes.f = some r) :
    Calls Try.prog 8 #[] w fun e w' => ∃ v0_ : Value, e = .returned (v0_) ∧ Kd.R k26 26 w' w.heap.size (fun _ => True) v0_ r ∧ Below w.heap.size w w' := by
  obtain rfl := Option.some.inj h
  have h0 : Calls Try.prog 8 #[] w fun e w' => e = .returned (.slice (some ⟨w.heap.size, 0, none⟩) 26 26) ∧ w' = w.alloc (.cells (flatCells cells26 api_Classes.tbl).toArray 26) := calls_run Try.func8 rfl rfl (by kernel_rfl)
  refine h0.mono ?_
  rintro e w' ⟨rfl, rfl⟩
  exact ⟨_, rfl, R_flat k26 26 w cells26 api_Classes.tbl (fun x W => k26_mkM _ _ _ x) (fun _ => rfl) (by decide), (Below.refl _ _).alloc (Nat.le_refl _) _⟩
/-! ### api_Assigned -/
def api_Assigned.tbl : List S26 := [⟨0, 544, 1⟩, ⟨546, 563, 1⟩, ⟨592, 685, 1⟩, ⟨688, 750, 1⟩, ⟨768, 847, 1⟩, ⟨864, 879, 1⟩, ⟨884, 885, 1⟩, ⟨890, 890, 1⟩, ⟨894, 894, 1⟩, ⟨900, 906, 1⟩, ⟨908, 908, 1⟩, ⟨910, 929, 1⟩, ⟨931, 974, 1⟩, ⟨976, 1014, 1⟩, ⟨1024, 1158, 1⟩, ⟨1160, 1230, 1⟩, ⟨1425, 1441, 1⟩, ⟨1443, 1465, 1⟩, ⟨1467, 1476, 1⟩, ⟨1488, 1514, 1⟩, ⟨1757, 1757, 1⟩, ⟨1807, 1807, 1⟩, ⟨2305, 2307, 1⟩, ⟨2309, 2361, 1⟩, ⟨2364, 2381, 1⟩, ⟨2392, 2416, 1⟩, ⟨4352, 4441, 1⟩, ⟨4447, 4514, 1⟩, ⟨4520, 4601, 1⟩, ⟨5760, 5788, 1⟩, ⟨6144, 6158, 1⟩, ⟨7680, 7835, 1⟩, ⟨7840, 7929, 1⟩, ⟨8175, 8175, 1⟩, ⟨8192, 8274, 1⟩, ⟨8287, 8291, 1⟩, ⟨8298, 8305, 1⟩, ⟨8400, 8426, 1⟩, ⟨8448, 8506, 1⟩, ⟨8531, 8579, 1⟩, ⟨9312, 9470, 1⟩, ⟨12288, 12351, 1⟩, ⟨12353, 12438, 1⟩, ⟨12441, 12543, 1⟩, ⟨19968, 40869, 1⟩, ⟨44032, 55203, 1⟩, ⟨57344, 63743, 1⟩, ⟨64256, 64262, 1⟩, ⟨64285, 64310, 1⟩, ⟨65024, 65039, 1⟩, ⟨65056, 65059, 1⟩, ⟨65279, 65279, 1⟩, ⟨65281, 65470, 1⟩, ⟨65529, 65533, 1⟩, ⟨66304, 66334, 1⟩, ⟨119155, 119162, 1⟩, ⟨917505, 917505, 1⟩, ⟨917536, 917631, 1⟩, ⟨983040, 1048573, 1⟩, ⟨1048576, 1114109, 1⟩]
def api_Assigned.f : Option (List S26) := some api_Assigned.tbl
theorem api_Assigned.calls (r : List S26) (w : World) (h : api_Assigned.f = some r) :
    Calls Try.prog 9 #[] w fun e w' => ∃ v0_ : Value, e = .returned (v0_) ∧ Kd.R k26 26 w' w.heap.size (fun _ => True) v0_ r ∧ Below w.heap.size w w' := by
  obtain rfl := Option.some.inj h
  have h0 : Calls Try.prog 9 #[] w fun e w' => e = .returned (.slice (some ⟨w.heap.size, 0, none⟩) 60 60) ∧ w' = w.alloc (.cells (flatCells cells26 api_Assigned.tbl).toArray 26) := calls_run Try.func9 rfl rfl (by kernel_rfl)
  refine h0.mono ?_
  rintro e w' ⟨rfl, rfl⟩
  exact ⟨_, rfl, R_flat k26 26 w cells26 api_Assigned.tbl (fun x W => k26_mkM _ _ _ x) (fun _ => rfl) (by decide), (Below.refl _ _).alloc (Nat.le_refl _) _⟩
/-! ### api_Nothing -/
def api_Nothing.tbl : List S26 := [⟨0, 8, 1⟩, ⟨14, 31, 1⟩, ⟨127, 132, 1⟩, ⟨134, 159, 1⟩, ⟨173, 173, 1⟩, ⟨847, 847, 1⟩, ⟨1757, 1757, 1⟩, ⟨1807, 1807, 1⟩, ⟨6150, 6150, 1⟩, ⟨6155, 6158, 1⟩, ⟨8203, 8207, 1⟩, ⟨8234, 8238, 1⟩, ⟨8288, 8291, 1⟩, ⟨8298, 8303, 1⟩, ⟨65024, 65039, 1⟩, ⟨65279, 65279, 1⟩, ⟨65529, 65532, 1⟩, ⟨119155, 119162, 1⟩, ⟨917505, 917505, 1⟩, ⟨917536, 917631, 1⟩]
def api_Nothing.f : Option (List S26) := some api_Nothing.tbl
theorem api_Nothing.calls (r : List S26) (w : World) (h : api_Nothing.f = some r) :
    Calls Try.prog 10 #[] w fun e w' => ∃ v0_ : Value, e = .returned (v0_) ∧ Kd.R k26 26 w' w.heap.size (fun _ => True) v0_ r ∧ Below w.heap.size w w' := by
  obtain rfl := Option.some.inj h
  have h0 : Calls Try.prog 10 #[] w fun e w' => e = .returned (.slice (some ⟨w.heap.size, 0, none⟩) 20 20) ∧ w' = w.alloc (.cells (flatCells cells26 api_Nothing.tbl).toArray 26) := calls_run Try.func10 rfl rfl (by kernel_rfl)
  refine h0.mono ?_
  rintro e w' ⟨rfl, rfl⟩
  exact ⟨_, rfl, R_flat k26 26 w cells26 api_Nothing.tbl (fun x W => k26_mkM _ _ _ x) (fun _ => rfl) (by decide), (Below.refl _ _).alloc (Nat.le_refl _) _⟩
/-! ### api_Spaces -/
def api_Spaces.tbl : List S26 := [⟨9, 13, 1⟩, ⟨133, 133, 1⟩, ⟨160, 160, 1⟩, ⟨5760, 5760, 1⟩, ⟨8192, 8202, 1⟩, ⟨8232, 8233, 1⟩, ⟨8239, 8239, 1⟩, ⟨8287, 8287, 1⟩, ⟨12288, 12288, 1⟩]
def api_Spaces.f : Option (List S26) := some api_Spaces.tbl
theorem api_Spaces.calls (r : List S26) (w : World) (h : api_Spaces.f = some r) :
    Calls Try.prog 11 #[] w fun e w' => ∃ v0_ : Value, e = .returned (v0_) ∧ Kd.R k26 26 w' w.heap.size (fun _ => True) v0_ r ∧ Below w.heap.size w w' := by
  obtain rfl := Option.some.inj h
  have h0 : Calls Try.prog 11 #[] w fun e w' => e = .returned (.slice (some ⟨w.heap.size, 0, none⟩) 9 9) ∧ w' = w.alloc (.cells (flatCells cells26 api_Spaces.tbl).toArray 26) := calls_run Try.func11 rfl rfl (by kernel_rfl)
  refine h0.mono ?_
  rintro e w' ⟨rfl, rfl⟩
  exact ⟨_, rfl, R_flat k26 26 w cells26 api_Spaces.tbl (fun x W => k26_mkM _ _ _ x) (fun _ => rfl) (by decide), (Below.refl _ _).alloc (Nat.le_refl _) _⟩
/-! ### api_Prohibited -/
def api_Prohibited.tbl : List S26 := [⟨832, 833, 1⟩, ⟨57344, 63743, 1⟩, ⟨65533, 65533, 1⟩, ⟨983040, 1048573, 1⟩, ⟨1048576, 1114109, 1⟩]
def api_Prohibited.f : Option (List S26) := some api_Prohibited.tbl
theorem api_Prohibited.calls (r : List S26) (w : World) (h : api_Prohibited.f = some r) :
    Calls Try.prog 12 #[] w fun e w' => ∃ v0_ : Value, e = .returned (v0_) ∧ Kd.R k26 26 w' w.heap.size (fun _ => True) v0_ r ∧ Below w.heap.size w w' := by
  obtain rfl := Option.some.inj h
  have h0 : Calls Try.prog 12 #[] w fun e w' => e = .returned (.slice (some ⟨w.heap.size, 0, none⟩) 5 5) ∧ w' = w.alloc (.cells (flatCells cells26 api_Prohibited.tbl).toArray 26) := calls_run Try.func12 rfl rfl (by kernel_rfl)
  refine h0.mono ?_
  rintro e w' ⟨rfl, rfl⟩
  exact ⟨_, rfl, R_flat k26 26 w cells26 api_Prohibited.tbl (fun x W => k26_mkM _ _ _ x) (fun _ => rfl) (by decide), (Below.refl _ _).alloc (Nat.le_refl _) _⟩
/-! ### api_rows -/
def api_rows.tbl : List S57 := [⟨768, (⟨#[65, 69, 73, 79, 85, 78, 87, 89, 97, 101, 105, 111, 117, 110, 119, 121, 208, 149, 208, 152, 208, 181, 208, 184]⟩ : ByteArray), (⟨#[195, 128, 195, 136, 195, 140, 195, 146, 195, 153, 199, 184, 225, 186, 128, 225, 187, 178, 195, 160, 195, 168, 195, 172, 195, 178, 195, 185, 199, 185, 225, 186, 129, 225, 187, 179, 208, 128, 208, 141, 209, 144, 209, 157]⟩ : ByteArray)⟩, ⟨769, (⟨#[65, 69, 73, 79, 85, 89, 67, 76, 78, 82, 83, 90, 97, 101, 105, 111, 117, 121, 99, 108, 110, 114, 115, 122, 206, 145, 206, 149, 206, 151, 206, 153, 206, 159, 206, 165, 206, 169, 206, 177, 206, 181, 206, 183, 206, 185, 206, 191, 207, 133, 207, 137, 208, 147, 208, 154, 208, 179, 208, 186]⟩ : ByteArray), (⟨#[195, 129, 195, 137, 195, 141, 195, 147, 195, 154, 195, 157, 196, 134, 196, 185, 197, 131, 197, 148, 197, 154, 197, 185, 195, 161, 195, 169, 195, 173, 195, 179, 195, 186, 195, 189, 196, 135, 196, 186, 197, 132, 197, 149, 197, 155, 197, 186, 206, 134, 206, 136, 206, 137, 206, 138, 206, 140, 206, 142, 206, 143, 206, 172, 206, 173, 206, 174, 206, 175, 207, 140, 207, 141, 207, 142, 208, 131, 208, 140, 209, 147, 209, 156]⟩ : ByteArray)⟩, ⟨770, (⟨#[65, 69, 73, 79, 85, 67, 71, 72, 74, 83, 87, 89, 97, 101, 105, 111, 117, 99, 103, 104, 106, 115, 119, 121]⟩ : ByteArray), (⟨#[195, 130, 195, 138, 195, 142, 195, 148, 195, 155, 196, 136, 196, 156, 196, 164, 196, 180, 197, 156, 197, 180, 197, 182, 195, 162, 195, 170, 195, 174, 195, 180, 195, 187, 196, 137, 196, 157, 196, 165, 196, 181, 197, 157, 197, 181, 197, 183]⟩ : ByteArray)⟩, ⟨771, (⟨#[65, 78, 79, 73, 85, 97, 110, 111, 105, 117]⟩ : ByteArray), (⟨#[195, 131, 195, 145, 195, 149, 196, 168, 197, 168, 195, 163, 195, 177, 195, 181, 196, 169, 197, 169]⟩ : ByteArray)⟩, ⟨772, (⟨#[65, 69, 73, 79, 85, 97, 101, 105, 111, 117]⟩ : ByteArray), (⟨#[196, 128, 196, 146, 196, 170, 197, 140, 197, 170, 196, 129, 196, 147, 196, 171, 197, 141, 197, 171]⟩ : ByteArray)⟩, ⟨774, (⟨#[65, 69, 71, 73, 79, 85, 97, 101, 103, 105, 111, 117, 208, 152, 208, 163, 208, 184, 209, 131]⟩ : ByteArray), (⟨#[196, 130, 196, 148, 196, 158, 196, 172, 197, 142, 197, 172, 196, 131, 196, 149, 196, 159, 196, 173, 197, 143, 197, 173, 208, 153, 208, 142, 208, 185, 209, 158]⟩ : ByteArray)⟩, ⟨775, (⟨#[67, 69, 71, 73, 90, 99, 101, 103, 122]⟩ : ByteArray), (⟨#[196, 138, 196, 150, 196, 160, 196, 176, 197, 187, 196, 139, 196, 151, 196, 161, 197, 188]⟩ : ByteArray)⟩, ⟨776, (⟨#[65, 69, 73, 79, 85, 89, 97, 101, 105, 111, 117, 121, 206, 153, 206, 165, 206, 185, 207, 133, 208, 149, 208, 134, 208, 181, 209, 150]⟩ : ByteArray), (⟨#[195, 132, 195, 139, 195, 143, 195, 150, 195, 156, 197, 184, 195, 164, 195, 171, 195, 175, 195, 182, 195, 188, 195, 191, 206, 170, 206, 171, 207, 138, 207, 139, 208, 129, 208, 135, 209, 145, 209, 151]⟩ : ByteArray)⟩, ⟨778, (⟨#[65, 85, 97, 117]⟩ : ByteArray), (⟨#[195, 133, 197, 174, 195, 165, 197, 175]⟩ : ByteArray)⟩, ⟨779, (⟨#[79, 85, 111, 117]⟩ : ByteArray), (⟨#[197, 144, 197, 176, 197, 145, 197, 177]⟩ : ByteArray)⟩, ⟨780, (⟨#[67, 68, 69, 78, 82, 83, 84, 90, 99, 100, 101, 110, 114, 115, 116, 122]⟩ : ByteArray), (⟨#[196, 140, 196, 142, 196, 154, 197, 135, 197, 152, 197, 160, 197, 164, 197, 189, 196, 141, 196, 143, 196, 155, 197, 136, 197, 153, 197, 161, 197, 165, 197, 190]⟩ : ByteArray)⟩, ⟨803, (⟨#[65, 69, 73, 79, 85, 97, 101, 105, 111, 117]⟩ : ByteArray), (⟨#[225, 186, 160, 225, 186, 184, 225, 187, 138, 225, 187, 140, 225, 187, 164, 225, 186, 161, 225, 186, 185, 225, 187, 139, 225, 187, 141, 225, 187, 165]⟩ : ByteArray)⟩, ⟨807, (⟨#[67, 71, 75, 76, 78, 82, 83, 84, 99, 103, 107, 108, 110, 114, 115, 116]⟩ : ByteArray), (⟨#[195, 135, 196, 162, 196, 182, 196, 187, 197, 133, 197, 150, 197, 158, 197, 162, 195, 167, 196, 163, 196, 183, 196, 188, 197, 134, 197, 151, 197, 159, 197, 163]⟩ : ByteArray)⟩, ⟨808, (⟨#[65, 69, 73, 85, 97, 101, 105, 117]⟩ : ByteArray), (⟨#[196, 132, 196, 152, 196, 174, 197, 178, 196, 133, 196, 153, 196, 175, 197, 179]⟩ : ByteArray)⟩, ⟨769, (⟨#[195, 130, 195, 138, 195, 148, 195, 162, 195, 170, 195, 180, 207, 138, 207, 139]⟩ : ByteArray), (⟨#[225, 186, 164, 225, 186, 190, 225, 187, 144, 225, 186, 165, 225, 186, 191, 225, 187, 145, 206, 144, 206, 176]⟩ : ByteArray)⟩, ⟨768, (⟨#[195, 130, 195, 138, 195, 148, 195, 162, 195, 170, 195, 180]⟩ : ByteArray), (⟨#[225, 186, 166, 225, 187, 128, 225, 187, 146, 225, 186, 167, 225, 187, 129, 225, 187, 147]⟩ : ByteArray)⟩, ⟨770, (⟨#[225, 186, 160, 225, 186, 184, 225, 187, 140, 225, 186, 161, 225, 186, 185, 225, 187, 141]⟩ : ByteArray), (⟨#[225, 186, 172, 225, 187, 134, 225, 187, 152, 225, 186, 173, 225, 187, 135, 225, 187, 153]⟩ : ByteArray)⟩]
def api_rows.f : Option (List S57) := some api_rows.tbl
theorem api_rows.calls (r : List S57) (w : World) (h : api_rows.f = some r) :
    Calls Try.prog 47 #[] w fun e w' => ∃ v0_ : Value, e = .returned (v0_) ∧ Kd.R k57 57 w' w.heap.size (fun _ => True) v0_ r ∧ Below w.heap.size w w' := by
  obtain rfl := Option.some.inj h
  have h0 : Calls Try.prog 47 #[] w fun e w' => e = .returned (.slice (some ⟨w.heap.size, 0, none⟩) 17 17) ∧ w' = w.alloc (.cells (flatCells cells57 api_rows.tbl).toArray 57) := calls_run Try.func47 rfl rfl (by kernel_rfl)
  refine h0.mono ?_
  rintro e w' ⟨rfl, rfl⟩
  exact ⟨_, rfl, R_flat k57 57 w cells57 api_rows.tbl (fun x W => k57_mkM _ _ _ x) (fun _ => rfl) (by decide), (Below.refl _ _).alloc (Nat.le_refl _) _⟩
end Go.Proofs.Ytimpcabimncnfaa.M
