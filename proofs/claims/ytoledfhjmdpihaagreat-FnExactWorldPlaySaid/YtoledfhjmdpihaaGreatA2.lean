/- The types of this program that the walks meet, as a table. -/
import Derived.Test.YtoledfhjmdpihaaGreatProg
import Derived.WalkKit
import Derived.Test.YtoledfhjmdpihaaGreatA1
set_option linter.unusedVariables false
namespace Go.Proofs.YtoledfhjmdpihaaGreat
open Go Go.Proofs Go.Proofs.YtoledfhjmdpihaaGreat.VE

theorem tyok2 : TyOk Tryz.prog 2 ⟨.int .i64, 1, [.int .i64 0], 8⟩ := ⟨Tryz.underlying2, by
  have h : (Tryz.prog.info? 2).map (fun x => (x.size, x.bytes, x.zero.map Value.cells)) = some ((⟨.int .i64, 1, [.int .i64 0], 8⟩ : TyI).size, (⟨.int .i64, 1, [.int .i64 0], 8⟩ : TyI).bytes, some (⟨.int .i64, 1, [.int .i64 0], 8⟩ : TyI).zero.toArray) := by kernel_rfl
  exact tyinfo_of h⟩
theorem tyok3 : TyOk Tryz.prog 3 ⟨.int .i64, 1, [.int .i64 0], 8⟩ := ⟨Tryz.underlying3, by
  have h : (Tryz.prog.info? 3).map (fun x => (x.size, x.bytes, x.zero.map Value.cells)) = some ((⟨.int .i64, 1, [.int .i64 0], 8⟩ : TyI).size, (⟨.int .i64, 1, [.int .i64 0], 8⟩ : TyI).bytes, some (⟨.int .i64, 1, [.int .i64 0], 8⟩ : TyI).zero.toArray) := by kernel_rfl
  exact tyinfo_of h⟩
theorem tyok4 : TyOk Tryz.prog 4 ⟨.bool, 1, [.bool false], 1⟩ := ⟨Tryz.underlying4, by
  have h : (Tryz.prog.info? 4).map (fun x => (x.size, x.bytes, x.zero.map Value.cells)) = some ((⟨.bool, 1, [.bool false], 1⟩ : TyI).size, (⟨.bool, 1, [.bool false], 1⟩ : TyI).bytes, some (⟨.bool, 1, [.bool false], 1⟩ : TyI).zero.toArray) := by kernel_rfl
  exact tyinfo_of h⟩
theorem tyok5 : TyOk Tryz.prog 5 ⟨.int .u8, 1, [.int .u8 0], 1⟩ := ⟨Tryz.underlying5, by
  have h : (Tryz.prog.info? 5).map (fun x => (x.size, x.bytes, x.zero.map Value.cells)) = some ((⟨.int .u8, 1, [.int .u8 0], 1⟩ : TyI).size, (⟨.int .u8, 1, [.int .u8 0], 1⟩ : TyI).bytes, some (⟨.int .u8, 1, [.int .u8 0], 1⟩ : TyI).zero.toArray) := by kernel_rfl
  exact tyinfo_of h⟩
theorem tyok9 : TyOk Tryz.prog 9 ⟨.string, 1, [.string ⟨#[]⟩], 16⟩ := ⟨Tryz.underlying9, by
  have h : (Tryz.prog.info? 9).map (fun x => (x.size, x.bytes, x.zero.map Value.cells)) = some ((⟨.string, 1, [.string ⟨#[]⟩], 16⟩ : TyI).size, (⟨.string, 1, [.string ⟨#[]⟩], 16⟩ : TyI).bytes, some (⟨.string, 1, [.string ⟨#[]⟩], 16⟩ : TyI).zero.toArray) := by kernel_rfl
  exact tyinfo_of h⟩
theorem tyok21 : TyOk Tryz.prog 21 ⟨.int .i32, 1, [.int .i32 0], 4⟩ := ⟨Tryz.underlying21, by
  have h : (Tryz.prog.info? 21).map (fun x => (x.size, x.bytes, x.zero.map Value.cells)) = some ((⟨.int .i32, 1, [.int .i32 0], 4⟩ : TyI).size, (⟨.int .i32, 1, [.int .i32 0], 4⟩ : TyI).bytes, some (⟨.int .i32, 1, [.int .i32 0], 4⟩ : TyI).zero.toArray) := by kernel_rfl
  exact tyinfo_of h⟩
theorem tyok22 : TyOk Tryz.prog 22 ⟨.slice 186, 1, [.slice none 0 0], 24⟩ := ⟨Tryz.underlying22, by
  have h : (Tryz.prog.info? 22).map (fun x => (x.size, x.bytes, x.zero.map Value.cells)) = some ((⟨.slice 186, 1, [.slice none 0 0], 24⟩ : TyI).size, (⟨.slice 186, 1, [.slice none 0 0], 24⟩ : TyI).bytes, some (⟨.slice 186, 1, [.slice none 0 0], 24⟩ : TyI).zero.toArray) := by kernel_rfl
  exact tyinfo_of h⟩
theorem tyok24 : TyOk Tryz.prog 24 ⟨.struct #[⟨ "Next", 3, 0, false, "", "", 0⟩, ⟨ "Cache", 22, 1, false, "", "", 8⟩], 2, [.int .i64 0, .slice none 0 0], 32⟩ := ⟨Tryz.underlying24, by
  have h : (Tryz.prog.info? 24).map (fun x => (x.size, x.bytes, x.zero.map Value.cells)) = some ((⟨.struct #[⟨ "Next", 3, 0, false, "", "", 0⟩, ⟨ "Cache", 22, 1, false, "", "", 8⟩], 2, [.int .i64 0, .slice none 0 0], 32⟩ : TyI).size, (⟨.struct #[⟨ "Next", 3, 0, false, "", "", 0⟩, ⟨ "Cache", 22, 1, false, "", "", 8⟩], 2, [.int .i64 0, .slice none 0 0], 32⟩ : TyI).bytes, some (⟨.struct #[⟨ "Next", 3, 0, false, "", "", 0⟩, ⟨ "Cache", 22, 1, false, "", "", 8⟩], 2, [.int .i64 0, .slice none 0 0], 32⟩ : TyI).zero.toArray) := by kernel_rfl
  exact tyinfo_of h⟩
theorem tyok25 : TyOk Tryz.prog 25 ⟨.slice 100, 1, [.slice none 0 0], 24⟩ := ⟨Tryz.underlying25, by
  have h : (Tryz.prog.info? 25).map (fun x => (x.size, x.bytes, x.zero.map Value.cells)) = some ((⟨.slice 100, 1, [.slice none 0 0], 24⟩ : TyI).size, (⟨.slice 100, 1, [.slice none 0 0], 24⟩ : TyI).bytes, some (⟨.slice 100, 1, [.slice none 0 0], 24⟩ : TyI).zero.toArray) := by kernel_rfl
  exact tyinfo_of h⟩
theorem tyok26 : TyOk Tryz.prog 26 ⟨.slice 103, 1, [.slice none 0 0], 24⟩ := ⟨Tryz.underlying26, by
  have h : (Tryz.prog.info? 26).map (fun x => (x.size, x.bytes, x.zero.map Value.cells)) = some ((⟨.slice 103, 1, [.slice none 0 0], 24⟩ : TyI).size, (⟨.slice 103, 1, [.slice none 0 0], 24⟩ : TyI).bytes, some (⟨.slice 103, 1, [.slice none 0 0], 24⟩ : TyI).zero.toArray) := by kernel_rfl
  exact tyinfo_of h⟩
theorem tyok27 : TyOk Tryz.prog 27 ⟨.slice 31, 1, [.slice none 0 0], 24⟩ := ⟨Tryz.underlying27, by
  have h : (Tryz.prog.info? 27).map (fun x => (x.size, x.bytes, x.zero.map Value.cells)) = some ((⟨.slice 31, 1, [.slice none 0 0], 24⟩ : TyI).size, (⟨.slice 31, 1, [.slice none 0 0], 24⟩ : TyI).bytes, some (⟨.slice 31, 1, [.slice none 0 0], 24⟩ : TyI).zero.toArray) := by kernel_rfl
  exact tyinfo_of h⟩
theorem tyok29 : TyOk Tryz.prog 29 ⟨.struct #[⟨ "Now", 3, 0, false, "", "", 0⟩, ⟨ "Kdc", 24, 1, false, "", "", 8⟩, ⟨ "Clients", 25, 3, false, "", "", 40⟩, ⟨ "Servs", 26, 4, false, "", "", 64⟩, ⟨ "Log", 27, 5, false, "", "", 88⟩, ⟨ "Bad", 3, 6, false, "", "", 112⟩], 7, [.int .i64 0, .int .i64 0, .slice none 0 0, .slice none 0 0, .slice none 0 0, .slice none 0 0, .int .i64 0], 120⟩ := ⟨Tryz.underlying29, by
  have h : (Tryz.prog.info? 29).map (fun x => (x.size, x.bytes, x.zero.map Value.cells)) = some ((⟨.struct #[⟨ "Now", 3, 0, false, "", "", 0⟩, ⟨ "Kdc", 24, 1, false, "", "", 8⟩, ⟨ "Clients", 25, 3, false, "", "", 40⟩, ⟨ "Servs", 26, 4, false, "", "", 64⟩, ⟨ "Log", 27, 5, false, "", "", 88⟩, ⟨ "Bad", 3, 6, false, "", "", 112⟩], 7, [.int .i64 0, .int .i64 0, .slice none 0 0, .slice none 0 0, .slice none 0 0, .slice none 0 0, .int .i64 0], 120⟩ : TyI).size, (⟨.struct #[⟨ "Now", 3, 0, false, "", "", 0⟩, ⟨ "Kdc", 24, 1, false, "", "", 8⟩, ⟨ "Clients", 25, 3, false, "", "", 40⟩, ⟨ "Servs", 26, 4, false, "", "", 64⟩, ⟨ "Log", 27, 5, false, "", "", 88⟩, ⟨ "Bad", 3, 6, false, "", "", 112⟩], 7, [.int .i64 0, .int .i64 0, .slice none 0 0, .slice none 0 0, .slice none 0 0, .slice none 0 0, .int .i64 0], 120⟩ : TyI).bytes, some (⟨.struct #[⟨ "Now", 3, 0, false, "", "", 0⟩, ⟨ "Kdc", 24, 1, false, "", "", 8⟩, ⟨ "Clients", 25, 3, false, "", "", 40⟩, ⟨ "Servs", 26, 4, false, "", "", 64⟩, ⟨ "Log", 27, 5, false, "", "", 88⟩, ⟨ "Bad", 3, 6, false, "", "", 112⟩], 7, [.int .i64 0, .int .i64 0, .slice none 0 0, .slice none 0 0, .slice none 0 0, .slice none 0 0, .int .i64 0], 120⟩ : TyI).zero.toArray) := by kernel_rfl
  exact tyinfo_of h⟩
theorem tyok31 : TyOk Tryz.prog 31 ⟨.struct #[⟨ "Kind", 3, 0, false, "", "", 0⟩, ⟨ "Client", 3, 1, false, "", "", 8⟩, ⟨ "Serv", 3, 2, false, "", "", 16⟩, ⟨ "Nonce", 3, 3, false, "", "", 24⟩, ⟨ "Seals", 22, 4, false, "", "", 32⟩], 5, [.int .i64 0, .int .i64 0, .int .i64 0, .int .i64 0, .slice none 0 0], 56⟩ := ⟨Tryz.underlying31, by
  have h : (Tryz.prog.info? 31).map (fun x => (x.size, x.bytes, x.zero.map Value.cells)) = some ((⟨.struct #[⟨ "Kind", 3, 0, false, "", "", 0⟩, ⟨ "Client", 3, 1, false, "", "", 8⟩, ⟨ "Serv", 3, 2, false, "", "", 16⟩, ⟨ "Nonce", 3, 3, false, "", "", 24⟩, ⟨ "Seals", 22, 4, false, "", "", 32⟩], 5, [.int .i64 0, .int .i64 0, .int .i64 0, .int .i64 0, .slice none 0 0], 56⟩ : TyI).size, (⟨.struct #[⟨ "Kind", 3, 0, false, "", "", 0⟩, ⟨ "Client", 3, 1, false, "", "", 8⟩, ⟨ "Serv", 3, 2, false, "", "", 16⟩, ⟨ "Nonce", 3, 3, false, "", "", 24⟩, ⟨ "Seals", 22, 4, false, "", "", 32⟩], 5, [.int .i64 0, .int .i64 0, .int .i64 0, .int .i64 0, .slice none 0 0], 56⟩ : TyI).bytes, some (⟨.struct #[⟨ "Kind", 3, 0, false, "", "", 0⟩, ⟨ "Client", 3, 1, false, "", "", 8⟩, ⟨ "Serv", 3, 2, false, "", "", 16⟩, ⟨ "Nonce", 3, 3, false, "", "", 24⟩, ⟨ "Seals", 22, 4, false, "", "", 32⟩], 5, [.int .i64 0, .int .i64 0, .int .i64 0, .int .i64 0, .slice none 0 0], 56⟩ : TyI).zero.toArray) := by kernel_rfl
  exact tyinfo_of h⟩
theorem tyok33 : TyOk Tryz.prog 33 ⟨.struct #[⟨ "Kind", 3, 0, false, "", "", 0⟩, ⟨ "A", 3, 1, false, "", "", 8⟩, ⟨ "B", 3, 2, false, "", "", 16⟩, ⟨ "Msg", 31, 3, false, "", "", 24⟩], 8, [.int .i64 0, .int .i64 0, .int .i64 0, .int .i64 0, .int .i64 0, .int .i64 0, .int .i64 0, .slice none 0 0], 80⟩ := ⟨Tryz.underlying33, by
  have h : (Tryz.prog.info? 33).map (fun x => (x.size, x.bytes, x.zero.map Value.cells)) = some ((⟨.struct #[⟨ "Kind", 3, 0, false, "", "", 0⟩, ⟨ "A", 3, 1, false, "", "", 8⟩, ⟨ "B", 3, 2, false, "", "", 16⟩, ⟨ "Msg", 31, 3, false, "", "", 24⟩], 8, [.int .i64 0, .int .i64 0, .int .i64 0, .int .i64 0, .int .i64 0, .int .i64 0, .int .i64 0, .slice none 0 0], 80⟩ : TyI).size, (⟨.struct #[⟨ "Kind", 3, 0, false, "", "", 0⟩, ⟨ "A", 3, 1, false, "", "", 8⟩, ⟨ "B", 3, 2, false, "", "", 16⟩, ⟨ "Msg", 31, 3, false, "", "", 24⟩], 8, [.int .i64 0, .int .i64 0, .int .i64 0, .int .i64 0, .int .i64 0, .int .i64 0, .int .i64 0, .slice none 0 0], 80⟩ : TyI).bytes, some (⟨.struct #[⟨ "Kind", 3, 0, false, "", "", 0⟩, ⟨ "A", 3, 1, false, "", "", 8⟩, ⟨ "B", 3, 2, false, "", "", 16⟩, ⟨ "Msg", 31, 3, false, "", "", 24⟩], 8, [.int .i64 0, .int .i64 0, .int .i64 0, .int .i64 0, .int .i64 0, .int .i64 0, .int .i64 0, .slice none 0 0], 80⟩ : TyI).zero.toArray) := by kernel_rfl
  exact tyinfo_of h⟩
theorem tyok36 : TyOk Tryz.prog 36 ⟨.slice 155, 1, [.slice none 0 0], 24⟩ := ⟨Tryz.underlying36, by
  have h : (Tryz.prog.info? 36).map (fun x => (x.size, x.bytes, x.zero.map Value.cells)) = some ((⟨.slice 155, 1, [.slice none 0 0], 24⟩ : TyI).size, (⟨.slice 155, 1, [.slice none 0 0], 24⟩ : TyI).bytes, some (⟨.slice 155, 1, [.slice none 0 0], 24⟩ : TyI).zero.toArray) := by kernel_rfl
  exact tyinfo_of h⟩
theorem tyok38 : TyOk Tryz.prog 38 ⟨.struct #[⟨ "Next", 3, 0, false, "", "", 0⟩, ⟨ "Cache", 36, 1, false, "", "", 8⟩], 2, [.int .i64 0, .slice none 0 0], 32⟩ := ⟨Tryz.underlying38, by
  have h : (Tryz.prog.info? 38).map (fun x => (x.size, x.bytes, x.zero.map Value.cells)) = some ((⟨.struct #[⟨ "Next", 3, 0, false, "", "", 0⟩, ⟨ "Cache", 36, 1, false, "", "", 8⟩], 2, [.int .i64 0, .slice none 0 0], 32⟩ : TyI).size, (⟨.struct #[⟨ "Next", 3, 0, false, "", "", 0⟩, ⟨ "Cache", 36, 1, false, "", "", 8⟩], 2, [.int .i64 0, .slice none 0 0], 32⟩ : TyI).bytes, some (⟨.struct #[⟨ "Next", 3, 0, false, "", "", 0⟩, ⟨ "Cache", 36, 1, false, "", "", 8⟩], 2, [.int .i64 0, .slice none 0 0], 32⟩ : TyI).zero.toArray) := by kernel_rfl
  exact tyinfo_of h⟩
theorem tyok39 : TyOk Tryz.prog 39 ⟨.slice 112, 1, [.slice none 0 0], 24⟩ := ⟨Tryz.underlying39, by
  have h : (Tryz.prog.info? 39).map (fun x => (x.size, x.bytes, x.zero.map Value.cells)) = some ((⟨.slice 112, 1, [.slice none 0 0], 24⟩ : TyI).size, (⟨.slice 112, 1, [.slice none 0 0], 24⟩ : TyI).bytes, some (⟨.slice 112, 1, [.slice none 0 0], 24⟩ : TyI).zero.toArray) := by kernel_rfl
  exact tyinfo_of h⟩
theorem tyok40 : TyOk Tryz.prog 40 ⟨.slice 115, 1, [.slice none 0 0], 24⟩ := ⟨Tryz.underlying40, by
  have h : (Tryz.prog.info? 40).map (fun x => (x.size, x.bytes, x.zero.map Value.cells)) = some ((⟨.slice 115, 1, [.slice none 0 0], 24⟩ : TyI).size, (⟨.slice 115, 1, [.slice none 0 0], 24⟩ : TyI).bytes, some (⟨.slice 115, 1, [.slice none 0 0], 24⟩ : TyI).zero.toArray) := by kernel_rfl
  exact tyinfo_of h⟩
theorem tyok41 : TyOk Tryz.prog 41 ⟨.slice 47, 1, [.slice none 0 0], 24⟩ := ⟨Tryz.underlying41, by
  have h : (Tryz.prog.info? 41).map (fun x => (x.size, x.bytes, x.zero.map Value.cells)) = some ((⟨.slice 47, 1, [.slice none 0 0], 24⟩ : TyI).size, (⟨.slice 47, 1, [.slice none 0 0], 24⟩ : TyI).bytes, some (⟨.slice 47, 1, [.slice none 0 0], 24⟩ : TyI).zero.toArray) := by kernel_rfl
  exact tyinfo_of h⟩
theorem tyok43 : TyOk Tryz.prog 43 ⟨.struct #[⟨ "Now", 3, 0, false, "", "", 0⟩, ⟨ "Kdc", 38, 1, false, "", "", 8⟩, ⟨ "Clients", 39, 3, false, "", "", 40⟩, ⟨ "Servs", 40, 4, false, "", "", 64⟩, ⟨ "Log", 41, 5, false, "", "", 88⟩, ⟨ "Bad", 3, 6, false, "", "", 112⟩], 7, [.int .i64 0, .int .i64 0, .slice none 0 0, .slice none 0 0, .slice none 0 0, .slice none 0 0, .int .i64 0], 120⟩ := ⟨Tryz.underlying43, by
  have h : (Tryz.prog.info? 43).map (fun x => (x.size, x.bytes, x.zero.map Value.cells)) = some ((⟨.struct #[⟨ "Now", 3, 0, false, "", "", 0⟩, ⟨ "Kdc", 38, 1, false, "", "", 8⟩, ⟨ "Clients", 39, 3, false, "", "", 40⟩, ⟨ "Servs", 40, 4, false, "", "", 64⟩, ⟨ "Log", 41, 5, false, "", "", 88⟩, ⟨ "Bad", 3, 6, false, "", "", 112⟩], 7, [.int .i64 0, .int .i64 0, .slice none 0 0, .slice none 0 0, .slice none 0 0, .slice none 0 0, .int .i64 0], 120⟩ : TyI).size, (⟨.struct #[⟨ "Now", 3, 0, false, "", "", 0⟩, ⟨ "Kdc", 38, 1, false, "", "", 8⟩, ⟨ "Clients", 39, 3, false, "", "", 40⟩, ⟨ "Servs", 40, 4, false, "", "", 64⟩, ⟨ "Log", 41, 5, false, "", "", 88⟩, ⟨ "Bad", 3, 6, false, "", "", 112⟩], 7, [.int .i64 0, .int .i64 0, .slice none 0 0, .slice none 0 0, .slice none 0 0, .slice none 0 0, .int .i64 0], 120⟩ : TyI).bytes, some (⟨.struct #[⟨ "Now", 3, 0, false, "", "", 0⟩, ⟨ "Kdc", 38, 1, false, "", "", 8⟩, ⟨ "Clients", 39, 3, false, "", "", 40⟩, ⟨ "Servs", 40, 4, false, "", "", 64⟩, ⟨ "Log", 41, 5, false, "", "", 88⟩, ⟨ "Bad", 3, 6, false, "", "", 112⟩], 7, [.int .i64 0, .int .i64 0, .slice none 0 0, .slice none 0 0, .slice none 0 0, .slice none 0 0, .int .i64 0], 120⟩ : TyI).zero.toArray) := by kernel_rfl
  exact tyinfo_of h⟩
theorem tyok47 : TyOk Tryz.prog 47 ⟨.struct #[⟨ "Kind", 3, 0, false, "", "", 0⟩, ⟨ "Client", 3, 1, false, "", "", 8⟩, ⟨ "Serv", 3, 2, false, "", "", 16⟩, ⟨ "Nonce", 3, 3, false, "", "", 24⟩, ⟨ "Seals", 36, 4, false, "", "", 32⟩], 5, [.int .i64 0, .int .i64 0, .int .i64 0, .int .i64 0, .slice none 0 0], 56⟩ := ⟨Tryz.underlying47, by
  have h : (Tryz.prog.info? 47).map (fun x => (x.size, x.bytes, x.zero.map Value.cells)) = some ((⟨.struct #[⟨ "Kind", 3, 0, false, "", "", 0⟩, ⟨ "Client", 3, 1, false, "", "", 8⟩, ⟨ "Serv", 3, 2, false, "", "", 16⟩, ⟨ "Nonce", 3, 3, false, "", "", 24⟩, ⟨ "Seals", 36, 4, false, "", "", 32⟩], 5, [.int .i64 0, .int .i64 0, .int .i64 0, .int .i64 0, .slice none 0 0], 56⟩ : TyI).size, (⟨.struct #[⟨ "Kind", 3, 0, false, "", "", 0⟩, ⟨ "Client", 3, 1, false, "", "", 8⟩, ⟨ "Serv", 3, 2, false, "", "", 16⟩, ⟨ "Nonce", 3, 3, false, "", "", 24⟩, ⟨ "Seals", 36, 4, false, "", "", 32⟩], 5, [.int .i64 0, .int .i64 0, .int .i64 0, .int .i64 0, .slice none 0 0], 56⟩ : TyI).bytes, some (⟨.struct #[⟨ "Kind", 3, 0, false, "", "", 0⟩, ⟨ "Client", 3, 1, false, "", "", 8⟩, ⟨ "Serv", 3, 2, false, "", "", 16⟩, ⟨ "Nonce", 3, 3, false, "", "", 24⟩, ⟨ "Seals", 36, 4, false, "", "", 32⟩], 5, [.int .i64 0, .int .i64 0, .int .i64 0, .int .i64 0, .slice none 0 0], 56⟩ : TyI).zero.toArray) := by kernel_rfl
  exact tyinfo_of h⟩
theorem tyok49 : TyOk Tryz.prog 49 ⟨.struct #[⟨ "Kind", 3, 0, false, "", "", 0⟩, ⟨ "A", 3, 1, false, "", "", 8⟩, ⟨ "B", 3, 2, false, "", "", 16⟩, ⟨ "Msg", 47, 3, false, "", "", 24⟩], 8, [.int .i64 0, .int .i64 0, .int .i64 0, .int .i64 0, .int .i64 0, .int .i64 0, .int .i64 0, .slice none 0 0], 80⟩ := ⟨Tryz.underlying49, by
  have h : (Tryz.prog.info? 49).map (fun x => (x.size, x.bytes, x.zero.map Value.cells)) = some ((⟨.struct #[⟨ "Kind", 3, 0, false, "", "", 0⟩, ⟨ "A", 3, 1, false, "", "", 8⟩, ⟨ "B", 3, 2, false, "", "", 16⟩, ⟨ "Msg", 47, 3, false, "", "", 24⟩], 8, [.int .i64 0, .int .i64 0, .int .i64 0, .int .i64 0, .int .i64 0, .int .i64 0, .int .i64 0, .slice none 0 0], 80⟩ : TyI).size, (⟨.struct #[⟨ "Kind", 3, 0, false, "", "", 0⟩, ⟨ "A", 3, 1, false, "", "", 8⟩, ⟨ "B", 3, 2, false, "", "", 16⟩, ⟨ "Msg", 47, 3, false, "", "", 24⟩], 8, [.int .i64 0, .int .i64 0, .int .i64 0, .int .i64 0, .int .i64 0, .int .i64 0, .int .i64 0, .slice none 0 0], 80⟩ : TyI).bytes, some (⟨.struct #[⟨ "Kind", 3, 0, false, "", "", 0⟩, ⟨ "A", 3, 1, false, "", "", 8⟩, ⟨ "B", 3, 2, false, "", "", 16⟩, ⟨ "Msg", 47, 3, false, "", "", 24⟩], 8, [.int .i64 0, .int .i64 0, .int .i64 0, .int .i64 0, .int .i64 0, .int .i64 0, .int .i64 0, .slice none 0 0], 80⟩ : TyI).zero.toArray) := by kernel_rfl
  exact tyinfo_of h⟩
theorem tyok56 : TyOk Tryz.prog 56 ⟨.slice 33, 1, [.slice none 0 0], 24⟩ := ⟨Tryz.underlying56, by
  have h : (Tryz.prog.info? 56).map (fun x => (x.size, x.bytes, x.zero.map Value.cells)) = some ((⟨.slice 33, 1, [.slice none 0 0], 24⟩ : TyI).size, (⟨.slice 33, 1, [.slice none 0 0], 24⟩ : TyI).bytes, some (⟨.slice 33, 1, [.slice none 0 0], 24⟩ : TyI).zero.toArray) := by kernel_rfl
  exact tyinfo_of h⟩
theorem tyok60 : TyOk Tryz.prog 60 ⟨.slice 49, 1, [.slice none 0 0], 24⟩ := ⟨Tryz.underlying60, by
  have h : (Tryz.prog.info? 60).map (fun x => (x.size, x.bytes, x.zero.map Value.cells)) = some ((⟨.slice 49, 1, [.slice none 0 0], 24⟩ : TyI).size, (⟨.slice 49, 1, [.slice none 0 0], 24⟩ : TyI).bytes, some (⟨.slice 49, 1, [.slice none 0 0], 24⟩ : TyI).zero.toArray) := by kernel_rfl
  exact tyinfo_of h⟩
theorem tyok96 : TyOk Tryz.prog 96 ⟨.slice 219, 1, [.slice none 0 0], 24⟩ := ⟨Tryz.underlying96, by
  have h : (Tryz.prog.info? 96).map (fun x => (x.size, x.bytes, x.zero.map Value.cells)) = some ((⟨.slice 219, 1, [.slice none 0 0], 24⟩ : TyI).size, (⟨.slice 219, 1, [.slice none 0 0], 24⟩ : TyI).bytes, some (⟨.slice 219, 1, [.slice none 0 0], 24⟩ : TyI).zero.toArray) := by kernel_rfl
  exact tyinfo_of h⟩
theorem tyok97 : TyOk Tryz.prog 97 ⟨.slice 222, 1, [.slice none 0 0], 24⟩ := ⟨Tryz.underlying97, by
  have h : (Tryz.prog.info? 97).map (fun x => (x.size, x.bytes, x.zero.map Value.cells)) = some ((⟨.slice 222, 1, [.slice none 0 0], 24⟩ : TyI).size, (⟨.slice 222, 1, [.slice none 0 0], 24⟩ : TyI).bytes, some (⟨.slice 222, 1, [.slice none 0 0], 24⟩ : TyI).zero.toArray) := by kernel_rfl
  exact tyinfo_of h⟩
theorem tyok98 : TyOk Tryz.prog 98 ⟨.slice 224, 1, [.slice none 0 0], 24⟩ := ⟨Tryz.underlying98, by
  have h : (Tryz.prog.info? 98).map (fun x => (x.size, x.bytes, x.zero.map Value.cells)) = some ((⟨.slice 224, 1, [.slice none 0 0], 24⟩ : TyI).size, (⟨.slice 224, 1, [.slice none 0 0], 24⟩ : TyI).bytes, some (⟨.slice 224, 1, [.slice none 0 0], 24⟩ : TyI).zero.toArray) := by kernel_rfl
  exact tyinfo_of h⟩
theorem tyok100 : TyOk Tryz.prog 100 ⟨.struct #[⟨ "Id", 3, 0, false, "", "", 0⟩, ⟨ "Num", 3, 1, false, "", "", 8⟩, ⟨ "Wants", 96, 2, false, "", "", 16⟩, ⟨ "Creds", 97, 3, false, "", "", 40⟩, ⟨ "Sent", 98, 4, false, "", "", 64⟩, ⟨ "Met", 98, 5, false, "", "", 88⟩], 6, [.int .i64 0, .int .i64 0, .slice none 0 0, .slice none 0 0, .slice none 0 0, .slice none 0 0], 112⟩ := ⟨Tryz.underlying100, by
  have h : (Tryz.prog.info? 100).map (fun x => (x.size, x.bytes, x.zero.map Value.cells)) = some ((⟨.struct #[⟨ "Id", 3, 0, false, "", "", 0⟩, ⟨ "Num", 3, 1, false, "", "", 8⟩, ⟨ "Wants", 96, 2, false, "", "", 16⟩, ⟨ "Creds", 97, 3, false, "", "", 40⟩, ⟨ "Sent", 98, 4, false, "", "", 64⟩, ⟨ "Met", 98, 5, false, "", "", 88⟩], 6, [.int .i64 0, .int .i64 0, .slice none 0 0, .slice none 0 0, .slice none 0 0, .slice none 0 0], 112⟩ : TyI).size, (⟨.struct #[⟨ "Id", 3, 0, false, "", "", 0⟩, ⟨ "Num", 3, 1, false, "", "", 8⟩, ⟨ "Wants", 96, 2, false, "", "", 16⟩, ⟨ "Creds", 97, 3, false, "", "", 40⟩, ⟨ "Sent", 98, 4, false, "", "", 64⟩, ⟨ "Met", 98, 5, false, "", "", 88⟩], 6, [.int .i64 0, .int .i64 0, .slice none 0 0, .slice none 0 0, .slice none 0 0, .slice none 0 0], 112⟩ : TyI).bytes, some (⟨.struct #[⟨ "Id", 3, 0, false, "", "", 0⟩, ⟨ "Num", 3, 1, false, "", "", 8⟩, ⟨ "Wants", 96, 2, false, "", "", 16⟩, ⟨ "Creds", 97, 3, false, "", "", 40⟩, ⟨ "Sent", 98, 4, false, "", "", 64⟩, ⟨ "Met", 98, 5, false, "", "", 88⟩], 6, [.int .i64 0, .int .i64 0, .slice none 0 0, .slice none 0 0, .slice none 0 0, .slice none 0 0], 112⟩ : TyI).zero.toArray) := by kernel_rfl
  exact tyinfo_of h⟩
theorem tyok103 : TyOk Tryz.prog 103 ⟨.struct #[⟨ "Id", 3, 0, false, "", "", 0⟩, ⟨ "Since", 3, 1, false, "", "", 8⟩, ⟨ "Cache", 22, 2, false, "", "", 16⟩, ⟨ "Took", 98, 3, false, "", "", 40⟩], 4, [.int .i64 0, .int .i64 0, .slice none 0 0, .slice none 0 0], 64⟩ := ⟨Tryz.underlying103, by
  have h : (Tryz.prog.info? 103).map (fun x => (x.size, x.bytes, x.zero.map Value.cells)) = some ((⟨.struct #[⟨ "Id", 3, 0, false, "", "", 0⟩, ⟨ "Since", 3, 1, false, "", "", 8⟩, ⟨ "Cache", 22, 2, false, "", "", 16⟩, ⟨ "Took", 98, 3, false, "", "", 40⟩], 4, [.int .i64 0, .int .i64 0, .slice none 0 0, .slice none 0 0], 64⟩ : TyI).size, (⟨.struct #[⟨ "Id", 3, 0, false, "", "", 0⟩, ⟨ "Since", 3, 1, false, "", "", 8⟩, ⟨ "Cache", 22, 2, false, "", "", 16⟩, ⟨ "Took", 98, 3, false, "", "", 40⟩], 4, [.int .i64 0, .int .i64 0, .slice none 0 0, .slice none 0 0], 64⟩ : TyI).bytes, some (⟨.struct #[⟨ "Id", 3, 0, false, "", "", 0⟩, ⟨ "Since", 3, 1, false, "", "", 8⟩, ⟨ "Cache", 22, 2, false, "", "", 16⟩, ⟨ "Took", 98, 3, false, "", "", 40⟩], 4, [.int .i64 0, .int .i64 0, .slice none 0 0, .slice none 0 0], 64⟩ : TyI).zero.toArray) := by kernel_rfl
  exact tyinfo_of h⟩
theorem tyok108 : TyOk Tryz.prog 108 ⟨.slice 162, 1, [.slice none 0 0], 24⟩ := ⟨Tryz.underlying108, by
  have h : (Tryz.prog.info? 108).map (fun x => (x.size, x.bytes, x.zero.map Value.cells)) = some ((⟨.slice 162, 1, [.slice none 0 0], 24⟩ : TyI).size, (⟨.slice 162, 1, [.slice none 0 0], 24⟩ : TyI).bytes, some (⟨.slice 162, 1, [.slice none 0 0], 24⟩ : TyI).zero.toArray) := by kernel_rfl
  exact tyinfo_of h⟩
theorem tyok109 : TyOk Tryz.prog 109 ⟨.slice 164, 1, [.slice none 0 0], 24⟩ := ⟨Tryz.underlying109, by
  have h : (Tryz.prog.info? 109).map (fun x => (x.size, x.bytes, x.zero.map Value.cells)) = some ((⟨.slice 164, 1, [.slice none 0 0], 24⟩ : TyI).size, (⟨.slice 164, 1, [.slice none 0 0], 24⟩ : TyI).bytes, some (⟨.slice 164, 1, [.slice none 0 0], 24⟩ : TyI).zero.toArray) := by kernel_rfl
  exact tyinfo_of h⟩
theorem tyok110 : TyOk Tryz.prog 110 ⟨.slice 169, 1, [.slice none 0 0], 24⟩ := ⟨Tryz.underlying110, by
  have h : (Tryz.prog.info? 110).map (fun x => (x.size, x.bytes, x.zero.map Value.cells)) = some ((⟨.slice 169, 1, [.slice none 0 0], 24⟩ : TyI).size, (⟨.slice 169, 1, [.slice none 0 0], 24⟩ : TyI).bytes, some (⟨.slice 169, 1, [.slice none 0 0], 24⟩ : TyI).zero.toArray) := by kernel_rfl
  exact tyinfo_of h⟩
theorem tyok112 : TyOk Tryz.prog 112 ⟨.struct #[⟨ "Id", 3, 0, false, "", "", 0⟩, ⟨ "Num", 3, 1, false, "", "", 8⟩, ⟨ "Wants", 108, 2, false, "", "", 16⟩, ⟨ "Creds", 109, 3, false, "", "", 40⟩, ⟨ "Sent", 110, 4, false, "", "", 64⟩, ⟨ "Met", 110, 5, false, "", "", 88⟩], 6, [.int .i64 0, .int .i64 0, .slice none 0 0, .slice none 0 0, .slice none 0 0, .slice none 0 0], 112⟩ := ⟨Tryz.underlying112, by
  have h : (Tryz.prog.info? 112).map (fun x => (x.size, x.bytes, x.zero.map Value.cells)) = some ((⟨.struct #[⟨ "Id", 3, 0, false, "", "", 0⟩, ⟨ "Num", 3, 1, false, "", "", 8⟩, ⟨ "Wants", 108, 2, false, "", "", 16⟩, ⟨ "Creds", 109, 3, false, "", "", 40⟩, ⟨ "Sent", 110, 4, false, "", "", 64⟩, ⟨ "Met", 110, 5, false, "", "", 88⟩], 6, [.int .i64 0, .int .i64 0, .slice none 0 0, .slice none 0 0, .slice none 0 0, .slice none 0 0], 112⟩ : TyI).size, (⟨.struct #[⟨ "Id", 3, 0, false, "", "", 0⟩, ⟨ "Num", 3, 1, false, "", "", 8⟩, ⟨ "Wants", 108, 2, false, "", "", 16⟩, ⟨ "Creds", 109, 3, false, "", "", 40⟩, ⟨ "Sent", 110, 4, false, "", "", 64⟩, ⟨ "Met", 110, 5, false, "", "", 88⟩], 6, [.int .i64 0, .int .i64 0, .slice none 0 0, .slice none 0 0, .slice none 0 0, .slice none 0 0], 112⟩ : TyI).bytes, some (⟨.struct #[⟨ "Id", 3, 0, false, "", "", 0⟩, ⟨ "Num", 3, 1, false, "", "", 8⟩, ⟨ "Wants", 108, 2, false, "", "", 16⟩, ⟨ "Creds", 109, 3, false, "", "", 40⟩, ⟨ "Sent", 110, 4, false, "", "", 64⟩, ⟨ "Met", 110, 5, false, "", "", 88⟩], 6, [.int .i64 0, .int .i64 0, .slice none 0 0, .slice none 0 0, .slice none 0 0, .slice none 0 0], 112⟩ : TyI).zero.toArray) := by kernel_rfl
  exact tyinfo_of h⟩
theorem tyok115 : TyOk Tryz.prog 115 ⟨.struct #[⟨ "Id", 3, 0, false, "", "", 0⟩, ⟨ "Since", 3, 1, false, "", "", 8⟩, ⟨ "Cache", 36, 2, false, "", "", 16⟩, ⟨ "Took", 110, 3, false, "", "", 40⟩], 4, [.int .i64 0, .int .i64 0, .slice none 0 0, .slice none 0 0], 64⟩ := ⟨Tryz.underlying115, by
  have h : (Tryz.prog.info? 115).map (fun x => (x.size, x.bytes, x.zero.map Value.cells)) = some ((⟨.struct #[⟨ "Id", 3, 0, false, "", "", 0⟩, ⟨ "Since", 3, 1, false, "", "", 8⟩, ⟨ "Cache", 36, 2, false, "", "", 16⟩, ⟨ "Took", 110, 3, false, "", "", 40⟩], 4, [.int .i64 0, .int .i64 0, .slice none 0 0, .slice none 0 0], 64⟩ : TyI).size, (⟨.struct #[⟨ "Id", 3, 0, false, "", "", 0⟩, ⟨ "Since", 3, 1, false, "", "", 8⟩, ⟨ "Cache", 36, 2, false, "", "", 16⟩, ⟨ "Took", 110, 3, false, "", "", 40⟩], 4, [.int .i64 0, .int .i64 0, .slice none 0 0, .slice none 0 0], 64⟩ : TyI).bytes, some (⟨.struct #[⟨ "Id", 3, 0, false, "", "", 0⟩, ⟨ "Since", 3, 1, false, "", "", 8⟩, ⟨ "Cache", 36, 2, false, "", "", 16⟩, ⟨ "Took", 110, 3, false, "", "", 40⟩], 4, [.int .i64 0, .int .i64 0, .slice none 0 0, .slice none 0 0], 64⟩ : TyI).zero.toArray) := by kernel_rfl
  exact tyinfo_of h⟩
theorem tyok120 : TyOk Tryz.prog 120 ⟨.slice 3, 1, [.slice none 0 0], 24⟩ := ⟨Tryz.underlying120, by
  have h : (Tryz.prog.info? 120).map (fun x => (x.size, x.bytes, x.zero.map Value.cells)) = some ((⟨.slice 3, 1, [.slice none 0 0], 24⟩ : TyI).size, (⟨.slice 3, 1, [.slice none 0 0], 24⟩ : TyI).bytes, some (⟨.slice 3, 1, [.slice none 0 0], 24⟩ : TyI).zero.toArray) := by kernel_rfl
  exact tyinfo_of h⟩
theorem tyok138 : TyOk Tryz.prog 138 ⟨.pointer 43, 1, [.pointer none], 8⟩ := ⟨Tryz.underlying138, by
  have h : (Tryz.prog.info? 138).map (fun x => (x.size, x.bytes, x.zero.map Value.cells)) = some ((⟨.pointer 43, 1, [.pointer none], 8⟩ : TyI).size, (⟨.pointer 43, 1, [.pointer none], 8⟩ : TyI).bytes, some (⟨.pointer 43, 1, [.pointer none], 8⟩ : TyI).zero.toArray) := by kernel_rfl
  exact tyinfo_of h⟩
theorem tyok155 : TyOk Tryz.prog 155 ⟨.struct #[⟨ "Key", 3, 0, false, "", "", 0⟩, ⟨ "Kind", 3, 1, false, "", "", 8⟩, ⟨ "A", 3, 2, false, "", "", 16⟩, ⟨ "B", 3, 3, false, "", "", 24⟩, ⟨ "C", 3, 4, false, "", "", 32⟩, ⟨ "D", 3, 5, false, "", "", 40⟩, ⟨ "E", 3, 6, false, "", "", 48⟩], 7, [.int .i64 0, .int .i64 0, .int .i64 0, .int .i64 0, .int .i64 0, .int .i64 0, .int .i64 0], 56⟩ := ⟨Tryz.underlying155, by
  have h : (Tryz.prog.info? 155).map (fun x => (x.size, x.bytes, x.zero.map Value.cells)) = some ((⟨.struct #[⟨ "Key", 3, 0, false, "", "", 0⟩, ⟨ "Kind", 3, 1, false, "", "", 8⟩, ⟨ "A", 3, 2, false, "", "", 16⟩, ⟨ "B", 3, 3, false, "", "", 24⟩, ⟨ "C", 3, 4, false, "", "", 32⟩, ⟨ "D", 3, 5, false, "", "", 40⟩, ⟨ "E", 3, 6, false, "", "", 48⟩], 7, [.int .i64 0, .int .i64 0, .int .i64 0, .int .i64 0, .int .i64 0, .int .i64 0, .int .i64 0], 56⟩ : TyI).size, (⟨.struct #[⟨ "Key", 3, 0, false, "", "", 0⟩, ⟨ "Kind", 3, 1, false, "", "", 8⟩, ⟨ "A", 3, 2, false, "", "", 16⟩, ⟨ "B", 3, 3, false, "", "", 24⟩, ⟨ "C", 3, 4, false, "", "", 32⟩, ⟨ "D", 3, 5, false, "", "", 40⟩, ⟨ "E", 3, 6, false, "", "", 48⟩], 7, [.int .i64 0, .int .i64 0, .int .i64 0, .int .i64 0, .int .i64 0, .int .i64 0, .int .i64 0], 56⟩ : TyI).bytes, some (⟨.struct #[⟨ "Key", 3, 0, false, "", "", 0⟩, ⟨ "Kind", 3, 1, false, "", "", 8⟩, ⟨ "A", 3, 2, false, "", "", 16⟩, ⟨ "B", 3, 3, false, "", "", 24⟩, ⟨ "C", 3, 4, false, "", "", 32⟩, ⟨ "D", 3, 5, false, "", "", 40⟩, ⟨ "E", 3, 6, false, "", "", 48⟩], 7, [.int .i64 0, .int .i64 0, .int .i64 0, .int .i64 0, .int .i64 0, .int .i64 0, .int .i64 0], 56⟩ : TyI).zero.toArray) := by kernel_rfl
  exact tyinfo_of h⟩
theorem tyok162 : TyOk Tryz.prog 162 ⟨.struct #[⟨ "Serv", 3, 0, false, "", "", 0⟩, ⟨ "Nonce", 3, 1, false, "", "", 8⟩], 2, [.int .i64 0, .int .i64 0], 16⟩ := ⟨Tryz.underlying162, by
  have h : (Tryz.prog.info? 162).map (fun x => (x.size, x.bytes, x.zero.map Value.cells)) = some ((⟨.struct #[⟨ "Serv", 3, 0, false, "", "", 0⟩, ⟨ "Nonce", 3, 1, false, "", "", 8⟩], 2, [.int .i64 0, .int .i64 0], 16⟩ : TyI).size, (⟨.struct #[⟨ "Serv", 3, 0, false, "", "", 0⟩, ⟨ "Nonce", 3, 1, false, "", "", 8⟩], 2, [.int .i64 0, .int .i64 0], 16⟩ : TyI).bytes, some (⟨.struct #[⟨ "Serv", 3, 0, false, "", "", 0⟩, ⟨ "Nonce", 3, 1, false, "", "", 8⟩], 2, [.int .i64 0, .int .i64 0], 16⟩ : TyI).zero.toArray) := by kernel_rfl
  exact tyinfo_of h⟩
theorem tyok164 : TyOk Tryz.prog 164 ⟨.struct #[⟨ "Serv", 3, 0, false, "", "", 0⟩, ⟨ "Key", 3, 1, false, "", "", 8⟩, ⟨ "Until", 3, 2, false, "", "", 16⟩, ⟨ "Ticket", 155, 3, false, "", "", 24⟩], 10, [.int .i64 0, .int .i64 0, .int .i64 0, .int .i64 0, .int .i64 0, .int .i64 0, .int .i64 0, .int .i64 0, .int .i64 0, .int .i64 0], 80⟩ := ⟨Tryz.underlying164, by
  have h : (Tryz.prog.info? 164).map (fun x => (x.size, x.bytes, x.zero.map Value.cells)) = some ((⟨.struct #[⟨ "Serv", 3, 0, false, "", "", 0⟩, ⟨ "Key", 3, 1, false, "", "", 8⟩, ⟨ "Until", 3, 2, false, "", "", 16⟩, ⟨ "Ticket", 155, 3, false, "", "", 24⟩], 10, [.int .i64 0, .int .i64 0, .int .i64 0, .int .i64 0, .int .i64 0, .int .i64 0, .int .i64 0, .int .i64 0, .int .i64 0, .int .i64 0], 80⟩ : TyI).size, (⟨.struct #[⟨ "Serv", 3, 0, false, "", "", 0⟩, ⟨ "Key", 3, 1, false, "", "", 8⟩, ⟨ "Until", 3, 2, false, "", "", 16⟩, ⟨ "Ticket", 155, 3, false, "", "", 24⟩], 10, [.int .i64 0, .int .i64 0, .int .i64 0, .int .i64 0, .int .i64 0, .int .i64 0, .int .i64 0, .int .i64 0, .int .i64 0, .int .i64 0], 80⟩ : TyI).bytes, some (⟨.struct #[⟨ "Serv", 3, 0, false, "", "", 0⟩, ⟨ "Key", 3, 1, false, "", "", 8⟩, ⟨ "Until", 3, 2, false, "", "", 16⟩, ⟨ "Ticket", 155, 3, false, "", "", 24⟩], 10, [.int .i64 0, .int .i64 0, .int .i64 0, .int .i64 0, .int .i64 0, .int .i64 0, .int .i64 0, .int .i64 0, .int .i64 0, .int .i64 0], 80⟩ : TyI).zero.toArray) := by kernel_rfl
  exact tyinfo_of h⟩
theorem tyok166 : TyOk Tryz.prog 166 ⟨.func #[155] #[4] false, 1, [.nilFunc], 8⟩ := ⟨Tryz.underlying166, by
  have h : (Tryz.prog.info? 166).map (fun x => (x.size, x.bytes, x.zero.map Value.cells)) = some ((⟨.func #[155] #[4] false, 1, [.nilFunc], 8⟩ : TyI).size, (⟨.func #[155] #[4] false, 1, [.nilFunc], 8⟩ : TyI).bytes, some (⟨.func #[155] #[4] false, 1, [.nilFunc], 8⟩ : TyI).zero.toArray) := by kernel_rfl
  exact tyinfo_of h⟩
theorem tyok169 : TyOk Tryz.prog 169 ⟨.struct #[⟨ "Peer", 3, 0, false, "", "", 0⟩, ⟨ "Key", 3, 1, false, "", "", 8⟩, ⟨ "Time", 3, 2, false, "", "", 16⟩, ⟨ "Num", 3, 3, false, "", "", 24⟩], 4, [.int .i64 0, .int .i64 0, .int .i64 0, .int .i64 0], 32⟩ := ⟨Tryz.underlying169, by
  have h : (Tryz.prog.info? 169).map (fun x => (x.size, x.bytes, x.zero.map Value.cells)) = some ((⟨.struct #[⟨ "Peer", 3, 0, false, "", "", 0⟩, ⟨ "Key", 3, 1, false, "", "", 8⟩, ⟨ "Time", 3, 2, false, "", "", 16⟩, ⟨ "Num", 3, 3, false, "", "", 24⟩], 4, [.int .i64 0, .int .i64 0, .int .i64 0, .int .i64 0], 32⟩ : TyI).size, (⟨.struct #[⟨ "Peer", 3, 0, false, "", "", 0⟩, ⟨ "Key", 3, 1, false, "", "", 8⟩, ⟨ "Time", 3, 2, false, "", "", 16⟩, ⟨ "Num", 3, 3, false, "", "", 24⟩], 4, [.int .i64 0, .int .i64 0, .int .i64 0, .int .i64 0], 32⟩ : TyI).bytes, some (⟨.struct #[⟨ "Peer", 3, 0, false, "", "", 0⟩, ⟨ "Key", 3, 1, false, "", "", 8⟩, ⟨ "Time", 3, 2, false, "", "", 16⟩, ⟨ "Num", 3, 3, false, "", "", 24⟩], 4, [.int .i64 0, .int .i64 0, .int .i64 0, .int .i64 0], 32⟩ : TyI).zero.toArray) := by kernel_rfl
  exact tyinfo_of h⟩
theorem tyok181 : TyOk Tryz.prog 181 ⟨.slice 4, 1, [.slice none 0 0], 24⟩ := ⟨Tryz.underlying181, by
  have h : (Tryz.prog.info? 181).map (fun x => (x.size, x.bytes, x.zero.map Value.cells)) = some ((⟨.slice 4, 1, [.slice none 0 0], 24⟩ : TyI).size, (⟨.slice 4, 1, [.slice none 0 0], 24⟩ : TyI).bytes, some (⟨.slice 4, 1, [.slice none 0 0], 24⟩ : TyI).zero.toArray) := by kernel_rfl
  exact tyinfo_of h⟩
theorem tyok186 : TyOk Tryz.prog 186 ⟨.struct #[⟨ "Key", 3, 0, false, "", "", 0⟩, ⟨ "Kind", 3, 1, false, "", "", 8⟩, ⟨ "A", 3, 2, false, "", "", 16⟩, ⟨ "B", 3, 3, false, "", "", 24⟩, ⟨ "C", 3, 4, false, "", "", 32⟩, ⟨ "D", 3, 5, false, "", "", 40⟩, ⟨ "E", 3, 6, false, "", "", 48⟩], 7, [.int .i64 0, .int .i64 0, .int .i64 0, .int .i64 0, .int .i64 0, .int .i64 0, .int .i64 0], 56⟩ := ⟨Tryz.underlying186, by
  have h : (Tryz.prog.info? 186).map (fun x => (x.size, x.bytes, x.zero.map Value.cells)) = some ((⟨.struct #[⟨ "Key", 3, 0, false, "", "", 0⟩, ⟨ "Kind", 3, 1, false, "", "", 8⟩, ⟨ "A", 3, 2, false, "", "", 16⟩, ⟨ "B", 3, 3, false, "", "", 24⟩, ⟨ "C", 3, 4, false, "", "", 32⟩, ⟨ "D", 3, 5, false, "", "", 40⟩, ⟨ "E", 3, 6, false, "", "", 48⟩], 7, [.int .i64 0, .int .i64 0, .int .i64 0, .int .i64 0, .int .i64 0, .int .i64 0, .int .i64 0], 56⟩ : TyI).size, (⟨.struct #[⟨ "Key", 3, 0, false, "", "", 0⟩, ⟨ "Kind", 3, 1, false, "", "", 8⟩, ⟨ "A", 3, 2, false, "", "", 16⟩, ⟨ "B", 3, 3, false, "", "", 24⟩, ⟨ "C", 3, 4, false, "", "", 32⟩, ⟨ "D", 3, 5, false, "", "", 40⟩, ⟨ "E", 3, 6, false, "", "", 48⟩], 7, [.int .i64 0, .int .i64 0, .int .i64 0, .int .i64 0, .int .i64 0, .int .i64 0, .int .i64 0], 56⟩ : TyI).bytes, some (⟨.struct #[⟨ "Key", 3, 0, false, "", "", 0⟩, ⟨ "Kind", 3, 1, false, "", "", 8⟩, ⟨ "A", 3, 2, false, "", "", 16⟩, ⟨ "B", 3, 3, false, "", "", 24⟩, ⟨ "C", 3, 4, false, "", "", 32⟩, ⟨ "D", 3, 5, false, "", "", 40⟩, ⟨ "E", 3, 6, false, "", "", 48⟩], 7, [.int .i64 0, .int .i64 0, .int .i64 0, .int .i64 0, .int .i64 0, .int .i64 0, .int .i64 0], 56⟩ : TyI).zero.toArray) := by kernel_rfl
  exact tyinfo_of h⟩
theorem tyok199 : TyOk Tryz.prog 199 ⟨.pointer 112, 1, [.pointer none], 8⟩ := ⟨Tryz.underlying199, by
  have h : (Tryz.prog.info? 199).map (fun x => (x.size, x.bytes, x.zero.map Value.cells)) = some ((⟨.pointer 112, 1, [.pointer none], 8⟩ : TyI).size, (⟨.pointer 112, 1, [.pointer none], 8⟩ : TyI).bytes, some (⟨.pointer 112, 1, [.pointer none], 8⟩ : TyI).zero.toArray) := by kernel_rfl
  exact tyinfo_of h⟩
theorem tyok206 : TyOk Tryz.prog 206 ⟨.pointer 239, 1, [.pointer none], 8⟩ := ⟨Tryz.underlying206, by
  have h : (Tryz.prog.info? 206).map (fun x => (x.size, x.bytes, x.zero.map Value.cells)) = some ((⟨.pointer 239, 1, [.pointer none], 8⟩ : TyI).size, (⟨.pointer 239, 1, [.pointer none], 8⟩ : TyI).bytes, some (⟨.pointer 239, 1, [.pointer none], 8⟩ : TyI).zero.toArray) := by kernel_rfl
  exact tyinfo_of h⟩
theorem tyok219 : TyOk Tryz.prog 219 ⟨.struct #[⟨ "Serv", 3, 0, false, "", "", 0⟩, ⟨ "Nonce", 3, 1, false, "", "", 8⟩], 2, [.int .i64 0, .int .i64 0], 16⟩ := ⟨Tryz.underlying219, by
  have h : (Tryz.prog.info? 219).map (fun x => (x.size, x.bytes, x.zero.map Value.cells)) = some ((⟨.struct #[⟨ "Serv", 3, 0, false, "", "", 0⟩, ⟨ "Nonce", 3, 1, false, "", "", 8⟩], 2, [.int .i64 0, .int .i64 0], 16⟩ : TyI).size, (⟨.struct #[⟨ "Serv", 3, 0, false, "", "", 0⟩, ⟨ "Nonce", 3, 1, false, "", "", 8⟩], 2, [.int .i64 0, .int .i64 0], 16⟩ : TyI).bytes, some (⟨.struct #[⟨ "Serv", 3, 0, false, "", "", 0⟩, ⟨ "Nonce", 3, 1, false, "", "", 8⟩], 2, [.int .i64 0, .int .i64 0], 16⟩ : TyI).zero.toArray) := by kernel_rfl
  exact tyinfo_of h⟩
theorem tyok222 : TyOk Tryz.prog 222 ⟨.struct #[⟨ "Serv", 3, 0, false, "", "", 0⟩, ⟨ "Key", 3, 1, false, "", "", 8⟩, ⟨ "Until", 3, 2, false, "", "", 16⟩, ⟨ "Ticket", 186, 3, false, "", "", 24⟩], 10, [.int .i64 0, .int .i64 0, .int .i64 0, .int .i64 0, .int .i64 0, .int .i64 0, .int .i64 0, .int .i64 0, .int .i64 0, .int .i64 0], 80⟩ := ⟨Tryz.underlying222, by
  have h : (Tryz.prog.info? 222).map (fun x => (x.size, x.bytes, x.zero.map Value.cells)) = some ((⟨.struct #[⟨ "Serv", 3, 0, false, "", "", 0⟩, ⟨ "Key", 3, 1, false, "", "", 8⟩, ⟨ "Until", 3, 2, false, "", "", 16⟩, ⟨ "Ticket", 186, 3, false, "", "", 24⟩], 10, [.int .i64 0, .int .i64 0, .int .i64 0, .int .i64 0, .int .i64 0, .int .i64 0, .int .i64 0, .int .i64 0, .int .i64 0, .int .i64 0], 80⟩ : TyI).size, (⟨.struct #[⟨ "Serv", 3, 0, false, "", "", 0⟩, ⟨ "Key", 3, 1, false, "", "", 8⟩, ⟨ "Until", 3, 2, false, "", "", 16⟩, ⟨ "Ticket", 186, 3, false, "", "", 24⟩], 10, [.int .i64 0, .int .i64 0, .int .i64 0, .int .i64 0, .int .i64 0, .int .i64 0, .int .i64 0, .int .i64 0, .int .i64 0, .int .i64 0], 80⟩ : TyI).bytes, some (⟨.struct #[⟨ "Serv", 3, 0, false, "", "", 0⟩, ⟨ "Key", 3, 1, false, "", "", 8⟩, ⟨ "Until", 3, 2, false, "", "", 16⟩, ⟨ "Ticket", 186, 3, false, "", "", 24⟩], 10, [.int .i64 0, .int .i64 0, .int .i64 0, .int .i64 0, .int .i64 0, .int .i64 0, .int .i64 0, .int .i64 0, .int .i64 0, .int .i64 0], 80⟩ : TyI).zero.toArray) := by kernel_rfl
  exact tyinfo_of h⟩
theorem tyok224 : TyOk Tryz.prog 224 ⟨.struct #[⟨ "Peer", 3, 0, false, "", "", 0⟩, ⟨ "Key", 3, 1, false, "", "", 8⟩, ⟨ "Time", 3, 2, false, "", "", 16⟩, ⟨ "Num", 3, 3, false, "", "", 24⟩], 4, [.int .i64 0, .int .i64 0, .int .i64 0, .int .i64 0], 32⟩ := ⟨Tryz.underlying224, by
  have h : (Tryz.prog.info? 224).map (fun x => (x.size, x.bytes, x.zero.map Value.cells)) = some ((⟨.struct #[⟨ "Peer", 3, 0, false, "", "", 0⟩, ⟨ "Key", 3, 1, false, "", "", 8⟩, ⟨ "Time", 3, 2, false, "", "", 16⟩, ⟨ "Num", 3, 3, false, "", "", 24⟩], 4, [.int .i64 0, .int .i64 0, .int .i64 0, .int .i64 0], 32⟩ : TyI).size, (⟨.struct #[⟨ "Peer", 3, 0, false, "", "", 0⟩, ⟨ "Key", 3, 1, false, "", "", 8⟩, ⟨ "Time", 3, 2, false, "", "", 16⟩, ⟨ "Num", 3, 3, false, "", "", 24⟩], 4, [.int .i64 0, .int .i64 0, .int .i64 0, .int .i64 0], 32⟩ : TyI).bytes, some (⟨.struct #[⟨ "Peer", 3, 0, false, "", "", 0⟩, ⟨ "Key", 3, 1, false, "", "", 8⟩, ⟨ "Time", 3, 2, false, "", "", 16⟩, ⟨ "Num", 3, 3, false, "", "", 24⟩], 4, [.int .i64 0, .int .i64 0, .int .i64 0, .int .i64 0], 32⟩ : TyI).zero.toArray) := by kernel_rfl
  exact tyinfo_of h⟩
theorem tyok233 : TyOk Tryz.prog 233 ⟨.pointer 38, 1, [.pointer none], 8⟩ := ⟨Tryz.underlying233, by
  have h : (Tryz.prog.info? 233).map (fun x => (x.size, x.bytes, x.zero.map Value.cells)) = some ((⟨.pointer 38, 1, [.pointer none], 8⟩ : TyI).size, (⟨.pointer 38, 1, [.pointer none], 8⟩ : TyI).bytes, some (⟨.pointer 38, 1, [.pointer none], 8⟩ : TyI).zero.toArray) := by kernel_rfl
  exact tyinfo_of h⟩
theorem tyok235 : TyOk Tryz.prog 235 ⟨.pointer 115, 1, [.pointer none], 8⟩ := ⟨Tryz.underlying235, by
  have h : (Tryz.prog.info? 235).map (fun x => (x.size, x.bytes, x.zero.map Value.cells)) = some ((⟨.pointer 115, 1, [.pointer none], 8⟩ : TyI).size, (⟨.pointer 115, 1, [.pointer none], 8⟩ : TyI).bytes, some (⟨.pointer 115, 1, [.pointer none], 8⟩ : TyI).zero.toArray) := by kernel_rfl
  exact tyinfo_of h⟩
theorem tyok238 : TyOk Tryz.prog 238 ⟨.array 61 4, 61, [.bool false, .bool false, .bool false, .bool false, .bool false, .bool false, .bool false, .bool false, .bool false, .bool false, .bool false, .bool false, .bool false, .bool false, .bool false, .bool false, .bool false, .bool false, .bool false, .bool false, .bool false, .bool false, .bool false, .bool false, .bool false, .bool false, .bool false, .bool false, .bool false, .bool false, .bool false, .bool false, .bool false, .bool false, .bool false, .bool false, .bool false, .bool false, .bool false, .bool false, .bool false, .bool false, .bool false, .bool false, .bool false, .bool false, .bool false, .bool false, .bool false, .bool false, .bool false, .bool false, .bool false, .bool false, .bool false, .bool false, .bool false, .bool false, .bool false, .bool false, .bool false], 61⟩ := ⟨Tryz.underlying238, by
  have h : (Tryz.prog.info? 238).map (fun x => (x.size, x.bytes, x.zero.map Value.cells)) = some ((⟨.array 61 4, 61, [.bool false, .bool false, .bool false, .bool false, .bool false, .bool false, .bool false, .bool false, .bool false, .bool false, .bool false, .bool false, .bool false, .bool false, .bool false, .bool false, .bool false, .bool false, .bool false, .bool false, .bool false, .bool false, .bool false, .bool false, .bool false, .bool false, .bool false, .bool false, .bool false, .bool false, .bool false, .bool false, .bool false, .bool false, .bool false, .bool false, .bool false, .bool false, .bool false, .bool false, .bool false, .bool false, .bool false, .bool false, .bool false, .bool false, .bool false, .bool false, .bool false, .bool false, .bool false, .bool false, .bool false, .bool false, .bool false, .bool false, .bool false, .bool false, .bool false, .bool false, .bool false], 61⟩ : TyI).size, (⟨.array 61 4, 61, [.bool false, .bool false, .bool false, .bool false, .bool false, .bool false, .bool false, .bool false, .bool false, .bool false, .bool false, .bool false, .bool false, .bool false, .bool false, .bool false, .bool false, .bool false, .bool false, .bool false, .bool false, .bool false, .bool false, .bool false, .bool false, .bool false, .bool false, .bool false, .bool false, .bool false, .bool false, .bool false, .bool false, .bool false, .bool false, .bool false, .bool false, .bool false, .bool false, .bool false, .bool false, .bool false, .bool false, .bool false, .bool false, .bool false, .bool false, .bool false, .bool false, .bool false, .bool false, .bool false, .bool false, .bool false, .bool false, .bool false, .bool false, .bool false, .bool false, .bool false, .bool false], 61⟩ : TyI).bytes, some (⟨.array 61 4, 61, [.bool false, .bool false, .bool false, .bool false, .bool false, .bool false, .bool false, .bool false, .bool false, .bool false, .bool false, .bool false, .bool false, .bool false, .bool false, .bool false, .bool false, .bool false, .bool false, .bool false, .bool false, .bool false, .bool false, .bool false, .bool false, .bool false, .bool false, .bool false, .bool false, .bool false, .bool false, .bool false, .bool false, .bool false, .bool false, .bool false, .bool false, .bool false, .bool false, .bool false, .bool false, .bool false, .bool false, .bool false, .bool false, .bool false, .bool false, .bool false, .bool false, .bool false, .bool false, .bool false, .bool false, .bool false, .bool false, .bool false, .bool false, .bool false, .bool false, .bool false, .bool false], 61⟩ : TyI).zero.toArray) := by kernel_rfl
  exact tyinfo_of h⟩
theorem tyok239 : TyOk Tryz.prog 239 ⟨.array 61 4, 61, [.bool false, .bool false, .bool false, .bool false, .bool false, .bool false, .bool false, .bool false, .bool false, .bool false, .bool false, .bool false, .bool false, .bool false, .bool false, .bool false, .bool false, .bool false, .bool false, .bool false, .bool false, .bool false, .bool false, .bool false, .bool false, .bool false, .bool false, .bool false, .bool false, .bool false, .bool false, .bool false, .bool false, .bool false, .bool false, .bool false, .bool false, .bool false, .bool false, .bool false, .bool false, .bool false, .bool false, .bool false, .bool false, .bool false, .bool false, .bool false, .bool false, .bool false, .bool false, .bool false, .bool false, .bool false, .bool false, .bool false, .bool false, .bool false, .bool false, .bool false, .bool false], 61⟩ := ⟨Tryz.underlying239, by
  have h : (Tryz.prog.info? 239).map (fun x => (x.size, x.bytes, x.zero.map Value.cells)) = some ((⟨.array 61 4, 61, [.bool false, .bool false, .bool false, .bool false, .bool false, .bool false, .bool false, .bool false, .bool false, .bool false, .bool false, .bool false, .bool false, .bool false, .bool false, .bool false, .bool false, .bool false, .bool false, .bool false, .bool false, .bool false, .bool false, .bool false, .bool false, .bool false, .bool false, .bool false, .bool false, .bool false, .bool false, .bool false, .bool false, .bool false, .bool false, .bool false, .bool false, .bool false, .bool false, .bool false, .bool false, .bool false, .bool false, .bool false, .bool false, .bool false, .bool false, .bool false, .bool false, .bool false, .bool false, .bool false, .bool false, .bool false, .bool false, .bool false, .bool false, .bool false, .bool false, .bool false, .bool false], 61⟩ : TyI).size, (⟨.array 61 4, 61, [.bool false, .bool false, .bool false, .bool false, .bool false, .bool false, .bool false, .bool false, .bool false, .bool false, .bool false, .bool false, .bool false, .bool false, .bool false, .bool false, .bool false, .bool false, .bool false, .bool false, .bool false, .bool false, .bool false, .bool false, .bool false, .bool false, .bool false, .bool false, .bool false, .bool false, .bool false, .bool false, .bool false, .bool false, .bool false, .bool false, .bool false, .bool false, .bool false, .bool false, .bool false, .bool false, .bool false, .bool false, .bool false, .bool false, .bool false, .bool false, .bool false, .bool false, .bool false, .bool false, .bool false, .bool false, .bool false, .bool false, .bool false, .bool false, .bool false, .bool false, .bool false], 61⟩ : TyI).bytes, some (⟨.array 61 4, 61, [.bool false, .bool false, .bool false, .bool false, .bool false, .bool false, .bool false, .bool false, .bool false, .bool false, .bool false, .bool false, .bool false, .bool false, .bool false, .bool false, .bool false, .bool false, .bool false, .bool false, .bool false, .bool false, .bool false, .bool false, .bool false, .bool false, .bool false, .bool false, .bool false, .bool false, .bool false, .bool false, .bool false, .bool false, .bool false, .bool false, .bool false, .bool false, .bool false, .bool false, .bool false, .bool false, .bool false, .bool false, .bool false, .bool false, .bool false, .bool false, .bool false, .bool false, .bool false, .bool false, .bool false, .bool false, .bool false, .bool false, .bool false, .bool false, .bool false, .bool false, .bool false], 61⟩ : TyI).zero.toArray) := by kernel_rfl
  exact tyinfo_of h⟩
theorem tyok256 : TyOk Tryz.prog 256 ⟨.int .u32, 1, [.int .u32 0], 4⟩ := ⟨Tryz.underlying256, by
  have h : (Tryz.prog.info? 256).map (fun x => (x.size, x.bytes, x.zero.map Value.cells)) = some ((⟨.int .u32, 1, [.int .u32 0], 4⟩ : TyI).size, (⟨.int .u32, 1, [.int .u32 0], 4⟩ : TyI).bytes, some (⟨.int .u32, 1, [.int .u32 0], 4⟩ : TyI).zero.toArray) := by kernel_rfl
  exact tyinfo_of h⟩
theorem tyok260 : TyOk Tryz.prog 260 ⟨.pointer 5, 1, [.pointer none], 8⟩ := ⟨Tryz.underlying260, by
  have h : (Tryz.prog.info? 260).map (fun x => (x.size, x.bytes, x.zero.map Value.cells)) = some ((⟨.pointer 5, 1, [.pointer none], 8⟩ : TyI).size, (⟨.pointer 5, 1, [.pointer none], 8⟩ : TyI).bytes, some (⟨.pointer 5, 1, [.pointer none], 8⟩ : TyI).zero.toArray) := by kernel_rfl
  exact tyinfo_of h⟩
instance tt : TT Tryz.prog := ⟨[(2, ⟨.int .i64, 1, [.int .i64 0], 8⟩),
  (3, ⟨.int .i64, 1, [.int .i64 0], 8⟩),
  (4, ⟨.bool, 1, [.bool false], 1⟩),
  (5, ⟨.int .u8, 1, [.int .u8 0], 1⟩),
  (9, ⟨.string, 1, [.string ⟨#[]⟩], 16⟩),
  (21, ⟨.int .i32, 1, [.int .i32 0], 4⟩),
  (22, ⟨.slice 186, 1, [.slice none 0 0], 24⟩),
  (24, ⟨.struct #[⟨ "Next", 3, 0, false, "", "", 0⟩, ⟨ "Cache", 22, 1, false, "", "", 8⟩], 2, [.int .i64 0, .slice none 0 0], 32⟩),
  (25, ⟨.slice 100, 1, [.slice none 0 0], 24⟩),
  (26, ⟨.slice 103, 1, [.slice none 0 0], 24⟩),
  (27, ⟨.slice 31, 1, [.slice none 0 0], 24⟩),
  (29, ⟨.struct #[⟨ "Now", 3, 0, false, "", "", 0⟩, ⟨ "Kdc", 24, 1, false, "", "", 8⟩, ⟨ "Clients", 25, 3, false, "", "", 40⟩, ⟨ "Servs", 26, 4, false, "", "", 64⟩, ⟨ "Log", 27, 5, false, "", "", 88⟩, ⟨ "Bad", 3, 6, false, "", "", 112⟩], 7, [.int .i64 0, .int .i64 0, .slice none 0 0, .slice none 0 0, .slice none 0 0, .slice none 0 0, .int .i64 0], 120⟩),
  (31, ⟨.struct #[⟨ "Kind", 3, 0, false, "", "", 0⟩, ⟨ "Client", 3, 1, false, "", "", 8⟩, ⟨ "Serv", 3, 2, false, "", "", 16⟩, ⟨ "Nonce", 3, 3, false, "", "", 24⟩, ⟨ "Seals", 22, 4, false, "", "", 32⟩], 5, [.int .i64 0, .int .i64 0, .int .i64 0, .int .i64 0, .slice none 0 0], 56⟩),
  (33, ⟨.struct #[⟨ "Kind", 3, 0, false, "", "", 0⟩, ⟨ "A", 3, 1, false, "", "", 8⟩, ⟨ "B", 3, 2, false, "", "", 16⟩, ⟨ "Msg", 31, 3, false, "", "", 24⟩], 8, [.int .i64 0, .int .i64 0, .int .i64 0, .int .i64 0, .int .i64 0, .int .i64 0, .int .i64 0, .slice none 0 0], 80⟩),
  (36, ⟨.slice 155, 1, [.slice none 0 0], 24⟩),
  (38, ⟨.struct #[⟨ "Next", 3, 0, false, "", "", 0⟩, ⟨ "Cache", 36, 1, false, "", "", 8⟩], 2, [.int .i64 0, .slice none 0 0], 32⟩),
  (39, ⟨.slice 112, 1, [.slice none 0 0], 24⟩),
  (40, ⟨.slice 115, 1, [.slice none 0 0], 24⟩),
  (41, ⟨.slice 47, 1, [.slice none 0 0], 24⟩),
  (43, ⟨.struct #[⟨ "Now", 3, 0, false, "", "", 0⟩, ⟨ "Kdc", 38, 1, false, "", "", 8⟩, ⟨ "Clients", 39, 3, false, "", "", 40⟩, ⟨ "Servs", 40, 4, false, "", "", 64⟩, ⟨ "Log", 41, 5, false, "", "", 88⟩, ⟨ "Bad", 3, 6, false, "", "", 112⟩], 7, [.int .i64 0, .int .i64 0, .slice none 0 0, .slice none 0 0, .slice none 0 0, .slice none 0 0, .int .i64 0], 120⟩),
  (47, ⟨.struct #[⟨ "Kind", 3, 0, false, "", "", 0⟩, ⟨ "Client", 3, 1, false, "", "", 8⟩, ⟨ "Serv", 3, 2, false, "", "", 16⟩, ⟨ "Nonce", 3, 3, false, "", "", 24⟩, ⟨ "Seals", 36, 4, false, "", "", 32⟩], 5, [.int .i64 0, .int .i64 0, .int .i64 0, .int .i64 0, .slice none 0 0], 56⟩),
  (49, ⟨.struct #[⟨ "Kind", 3, 0, false, "", "", 0⟩, ⟨ "A", 3, 1, false, "", "", 8⟩, ⟨ "B", 3, 2, false, "", "", 16⟩, ⟨ "Msg", 47, 3, false, "", "", 24⟩], 8, [.int .i64 0, .int .i64 0, .int .i64 0, .int .i64 0, .int .i64 0, .int .i64 0, .int .i64 0, .slice none 0 0], 80⟩),
  (56, ⟨.slice 33, 1, [.slice none 0 0], 24⟩),
  (60, ⟨.slice 49, 1, [.slice none 0 0], 24⟩),
  (96, ⟨.slice 219, 1, [.slice none 0 0], 24⟩),
  (97, ⟨.slice 222, 1, [.slice none 0 0], 24⟩),
  (98, ⟨.slice 224, 1, [.slice none 0 0], 24⟩),
  (100, ⟨.struct #[⟨ "Id", 3, 0, false, "", "", 0⟩, ⟨ "Num", 3, 1, false, "", "", 8⟩, ⟨ "Wants", 96, 2, false, "", "", 16⟩, ⟨ "Creds", 97, 3, false, "", "", 40⟩, ⟨ "Sent", 98, 4, false, "", "", 64⟩, ⟨ "Met", 98, 5, false, "", "", 88⟩], 6, [.int .i64 0, .int .i64 0, .slice none 0 0, .slice none 0 0, .slice none 0 0, .slice none 0 0], 112⟩),
  (103, ⟨.struct #[⟨ "Id", 3, 0, false, "", "", 0⟩, ⟨ "Since", 3, 1, false, "", "", 8⟩, ⟨ "Cache", 22, 2, false, "", "", 16⟩, ⟨ "Took", 98, 3, false, "", "", 40⟩], 4, [.int .i64 0, .int .i64 0, .slice none 0 0, .slice none 0 0], 64⟩),
  (108, ⟨.slice 162, 1, [.slice none 0 0], 24⟩),
  (109, ⟨.slice 164, 1, [.slice none 0 0], 24⟩),
  (110, ⟨.slice 169, 1, [.slice none 0 0], 24⟩),
  (112, ⟨.struct #[⟨ "Id", 3, 0, false, "", "", 0⟩, ⟨ "Num", 3, 1, false, "", "", 8⟩, ⟨ "Wants", 108, 2, false, "", "", 16⟩, ⟨ "Creds", 109, 3, false, "", "", 40⟩, ⟨ "Sent", 110, 4, false, "", "", 64⟩, ⟨ "Met", 110, 5, false, "", "", 88⟩], 6, [.int .i64 0, .int .i64 0, .slice none 0 0, .slice none 0 0, .slice none 0 0, .slice none 0 0], 112⟩),
  (115, ⟨.struct #[⟨ "Id", 3, 0, false, "", "", 0⟩, ⟨ "Since", 3, 1, false, "", "", 8⟩, ⟨ "Cache", 36, 2, false, "", "", 16⟩, ⟨ "Took", 110, 3, false, "", "", 40⟩], 4, [.int .i64 0, .int .i64 0, .slice none 0 0, .slice none 0 0], 64⟩),
  (120, ⟨.slice 3, 1, [.slice none 0 0], 24⟩),
  (138, ⟨.pointer 43, 1, [.pointer none], 8⟩),
  (155, ⟨.struct #[⟨ "Key", 3, 0, false, "", "", 0⟩, ⟨ "Kind", 3, 1, false, "", "", 8⟩, ⟨ "A", 3, 2, false, "", "", 16⟩, ⟨ "B", 3, 3, false, "", "", 24⟩, ⟨ "C", 3, 4, false, "", "", 32⟩, ⟨ "D", 3, 5, false, "", "", 40⟩, ⟨ "E", 3, 6, false, "", "", 48⟩], 7, [.int .i64 0, .int .i64 0, .int .i64 0, .int .i64 0, .int .i64 0, .int .i64 0, .int .i64 0], 56⟩),
  (162, ⟨.struct #[⟨ "Serv", 3, 0, false, "", "", 0⟩, ⟨ "Nonce", 3, 1, false, "", "", 8⟩], 2, [.int .i64 0, .int .i64 0], 16⟩),
  (164, ⟨.struct #[⟨ "Serv", 3, 0, false, "", "", 0⟩, ⟨ "Key", 3, 1, false, "", "", 8⟩, ⟨ "Until", 3, 2, false, "", "", 16⟩, ⟨ "Ticket", 155, 3, false, "", "", 24⟩], 10, [.int .i64 0, .int .i64 0, .int .i64 0, .int .i64 0, .int .i64 0, .int .i64 0, .int .i64 0, .int .i64 0, .int .i64 0, .int .i64 0], 80⟩),
  (166, ⟨.func #[155] #[4] false, 1, [.nilFunc], 8⟩),
  (169, ⟨.struct #[⟨ "Peer", 3, 0, false, "", "", 0⟩, ⟨ "Key", 3, 1, false, "", "", 8⟩, ⟨ "Time", 3, 2, false, "", "", 16⟩, ⟨ "Num", 3, 3, false, "", "", 24⟩], 4, [.int .i64 0, .int .i64 0, .int .i64 0, .int .i64 0], 32⟩),
  (181, ⟨.slice 4, 1, [.slice none 0 0], 24⟩),
  (186, ⟨.struct #[⟨ "Key", 3, 0, false, "", "", 0⟩, ⟨ "Kind", 3, 1, false, "", "", 8⟩, ⟨ "A", 3, 2, false, "", "", 16⟩, ⟨ "B", 3, 3, false, "", "", 24⟩, ⟨ "C", 3, 4, false, "", "", 32⟩, ⟨ "D", 3, 5, false, "", "", 40⟩, ⟨ "E", 3, 6, false, "", "", 48⟩], 7, [.int .i64 0, .int .i64 0, .int .i64 0, .int .i64 0, .int .i64 0, .int .i64 0, .int .i64 0], 56⟩),
  (199, ⟨.pointer 112, 1, [.pointer none], 8⟩),
  (206, ⟨.pointer 239, 1, [.pointer none], 8⟩),
  (219, ⟨.struct #[⟨ "Serv", 3, 0, false, "", "", 0⟩, ⟨ "Nonce", 3, 1, false, "", "", 8⟩], 2, [.int .i64 0, .int .i64 0], 16⟩),
  (222, ⟨.struct #[⟨ "Serv", 3, 0, false, "", "", 0⟩, ⟨ "Key", 3, 1, false, "", "", 8⟩, ⟨ "Until", 3, 2, false, "", "", 16⟩, ⟨ "Ticket", 186, 3, false, "", "", 24⟩], 10, [.int .i64 0, .int .i64 0, .int .i64 0, .int .i64 0, .int .i64 0, .int .i64 0, .int .i64 0, .int .i64 0, .int .i64 0, .int .i64 0], 80⟩),
  (224, ⟨.struct #[⟨ "Peer", 3, 0, false, "", "", 0⟩, ⟨ "Key", 3, 1, false, "", "", 8⟩, ⟨ "Time", 3, 2, false, "", "", 16⟩, ⟨ "Num", 3, 3, false, "", "", 24⟩], 4, [.int .i64 0, .int .i64 0, .int .i64 0, .int .i64 0], 32⟩),
  (233, ⟨.pointer 38, 1, [.pointer none], 8⟩),
  (235, ⟨.pointer 115, 1, [.pointer none], 8⟩),
  (238, ⟨.array 61 4, 61, [.bool false, .bool false, .bool false, .bool false, .bool false, .bool false, .bool false, .bool false, .bool false, .bool false, .bool false, .bool false, .bool false, .bool false, .bool false, .bool false, .bool false, .bool false, .bool false, .bool false, .bool false, .bool false, .bool false, .bool false, .bool false, .bool false, .bool false, .bool false, .bool false, .bool false, .bool false, .bool false, .bool false, .bool false, .bool false, .bool false, .bool false, .bool false, .bool false, .bool false, .bool false, .bool false, .bool false, .bool false, .bool false, .bool false, .bool false, .bool false, .bool false, .bool false, .bool false, .bool false, .bool false, .bool false, .bool false, .bool false, .bool false, .bool false, .bool false, .bool false, .bool false], 61⟩),
  (239, ⟨.array 61 4, 61, [.bool false, .bool false, .bool false, .bool false, .bool false, .bool false, .bool false, .bool false, .bool false, .bool false, .bool false, .bool false, .bool false, .bool false, .bool false, .bool false, .bool false, .bool false, .bool false, .bool false, .bool false, .bool false, .bool false, .bool false, .bool false, .bool false, .bool false, .bool false, .bool false, .bool false, .bool false, .bool false, .bool false, .bool false, .bool false, .bool false, .bool false, .bool false, .bool false, .bool false, .bool false, .bool false, .bool false, .bool false, .bool false, .bool false, .bool false, .bool false, .bool false, .bool false, .bool false, .bool false, .bool false, .bool false, .bool false, .bool false, .bool false, .bool false, .bool false, .bool false, .bool false], 61⟩),
  (256, ⟨.int .u32, 1, [.int .u32 0], 4⟩),
  (260, ⟨.pointer 5, 1, [.pointer none], 8⟩)],
  all_ok ⟨tyok2, tyok3, tyok4, tyok5, tyok9, tyok21, tyok22, tyok24, tyok25, tyok26, tyok27, tyok29, tyok31, tyok33, tyok36, tyok38, tyok39, tyok40, tyok41, tyok43, tyok47, tyok49, tyok56, tyok60, tyok96, tyok97, tyok98, tyok100, tyok103, tyok108, tyok109, tyok110, tyok112, tyok115, tyok120, tyok138, tyok155, tyok162, tyok164, tyok166, tyok169, tyok181, tyok186, tyok199, tyok206, tyok219, tyok222, tyok224, tyok233, tyok235, tyok238, tyok239, tyok256, tyok260, trivial⟩,
  [(24, [0, 1]), (29, [0, 1, 3, 4, 5, 6]), (31, [0, 1, 2, 3, 4]), (33, [0, 1, 2, 3]), (38, [0, 1]), (43, [0, 1, 3, 4, 5, 6]), (47, [0, 1, 2, 3, 4]), (49, [0, 1, 2, 3]), (100, [0, 1, 2, 3, 4, 5]), (103, [0, 1, 2, 3]), (112, [0, 1, 2, 3, 4, 5]), (115, [0, 1, 2, 3]), (155, [0, 1, 2, 3, 4, 5, 6]), (162, [0, 1]), (164, [0, 1, 2, 3]), (169, [0, 1, 2, 3]), (186, [0, 1, 2, 3, 4, 5, 6]), (219, [0, 1]), (222, [0, 1, 2, 3]), (224, [0, 1, 2, 3])],
  allS ⟨⟨fldok_of Tryz.underlying24 (by kernel_rfl), fldok_of Tryz.underlying24 (by kernel_rfl), trivial⟩,
    ⟨fldok_of Tryz.underlying29 (by kernel_rfl), fldok_of Tryz.underlying29 (by kernel_rfl), fldok_of Tryz.underlying29 (by kernel_rfl), fldok_of Tryz.underlying29 (by kernel_rfl), fldok_of Tryz.underlying29 (by kernel_rfl), fldok_of Tryz.underlying29 (by kernel_rfl), trivial⟩,
    ⟨fldok_of Tryz.underlying31 (by kernel_rfl), fldok_of Tryz.underlying31 (by kernel_rfl), fldok_of Tryz.underlying31 (by kernel_rfl), fldok_of Tryz.underlying31 (by kernel_rfl), fldok_of Tryz.underlying31 (by kernel_rfl), trivial⟩,
    ⟨fldok_of Tryz.underlying33 (by kernel_rfl), fldok_of Tryz.underlying33 (by kernel_rfl), fldok_of Tryz.underlying33 (by kernel_rfl), fldok_of Tryz.underlying33 (by kernel_rfl), trivial⟩,
    ⟨fldok_of Tryz.underlying38 (by kernel_rfl), fldok_of Tryz.underlying38 (by kernel_rfl), trivial⟩,
    ⟨fldok_of Tryz.underlying43 (by kernel_rfl), fldok_of Tryz.underlying43 (by kernel_rfl), fldok_of Tryz.underlying43 (by kernel_rfl), fldok_of Tryz.underlying43 (by kernel_rfl), fldok_of Tryz.underlying43 (by kernel_rfl), fldok_of Tryz.underlying43 (by kernel_rfl), trivial⟩,
    ⟨fldok_of Tryz.underlying47 (by kernel_rfl), fldok_of Tryz.underlying47 (by kernel_rfl), fldok_of Tryz.underlying47 (by kernel_rfl), fldok_of Tryz.underlying47 (by kernel_rfl), fldok_of Tryz.underlying47 (by kernel_rfl), trivial⟩,
    ⟨fldok_of Tryz.underlying49 (by kernel_rfl), fldok_of Tryz.underlying49 (by kernel_rfl), fldok_of Tryz.underlying49 (by kernel_rfl), fldok_of Tryz.underlying49 (by kernel_rfl), trivial⟩,
    ⟨fldok_of Tryz.underlying100 (by kernel_rfl), fldok_of Tryz.underlying100 (by kernel_rfl), fldok_of Tryz.underlying100 (by kernel_rfl), fldok_of Tryz.underlying100 (by kernel_rfl), fldok_of Tryz.underlying100 (by kernel_rfl), fldok_of Tryz.underlying100 (by kernel_rfl), trivial⟩,
    ⟨fldok_of Tryz.underlying103 (by kernel_rfl), fldok_of Tryz.underlying103 (by kernel_rfl), fldok_of Tryz.underlying103 (by kernel_rfl), fldok_of Tryz.underlying103 (by kernel_rfl), trivial⟩,
    ⟨fldok_of Tryz.underlying112 (by kernel_rfl), fldok_of Tryz.underlying112 (by kernel_rfl), fldok_of Tryz.underlying112 (by kernel_rfl), fldok_of Tryz.underlying112 (by kernel_rfl), fldok_of Tryz.underlying112 (by kernel_rfl), fldok_of Tryz.underlying112 (by kernel_rfl), trivial⟩,
    ⟨fldok_of Tryz.underlying115 (by kernel_rfl), fldok_of Tryz.underlying115 (by kernel_rfl), fldok_of Tryz.underlying115 (by kernel_rfl), fldok_of Tryz.underlying115 (by kernel_rfl), trivial⟩,
    ⟨fldok_of Tryz.underlying155 (by kernel_rfl), fldok_of Tryz.underlying155 (by kernel_rfl), fldok_of Tryz.underlying155 (by kernel_rfl), fldok_of Tryz.underlying155 (by kernel_rfl), fldok_of Tryz.underlying155 (by kernel_rfl), fldok_of Tryz.underlying155 (by kernel_rfl), fldok_of Tryz.underlying155 (by kernel_rfl), trivial⟩,
    ⟨fldok_of Tryz.underlying162 (by kernel_rfl), fldok_of Tryz.underlying162 (by kernel_rfl), trivial⟩,
    ⟨fldok_of Tryz.underlying164 (by kernel_rfl), fldok_of Tryz.underlying164 (by kernel_rfl), fldok_of Tryz.underlying164 (by kernel_rfl), fldok_of Tryz.underlying164 (by kernel_rfl), trivial⟩,
    ⟨fldok_of Tryz.underlying169 (by kernel_rfl), fldok_of Tryz.underlying169 (by kernel_rfl), fldok_of Tryz.underlying169 (by kernel_rfl), fldok_of Tryz.underlying169 (by kernel_rfl), trivial⟩,
    ⟨fldok_of Tryz.underlying186 (by kernel_rfl), fldok_of Tryz.underlying186 (by kernel_rfl), fldok_of Tryz.underlying186 (by kernel_rfl), fldok_of Tryz.underlying186 (by kernel_rfl), fldok_of Tryz.underlying186 (by kernel_rfl), fldok_of Tryz.underlying186 (by kernel_rfl), fldok_of Tryz.underlying186 (by kernel_rfl), trivial⟩,
    ⟨fldok_of Tryz.underlying219 (by kernel_rfl), fldok_of Tryz.underlying219 (by kernel_rfl), trivial⟩,
    ⟨fldok_of Tryz.underlying222 (by kernel_rfl), fldok_of Tryz.underlying222 (by kernel_rfl), fldok_of Tryz.underlying222 (by kernel_rfl), fldok_of Tryz.underlying222 (by kernel_rfl), trivial⟩,
    ⟨fldok_of Tryz.underlying224 (by kernel_rfl), fldok_of Tryz.underlying224 (by kernel_rfl), fldok_of Tryz.underlying224 (by kernel_rfl), fldok_of Tryz.underlying224 (by kernel_rfl), trivial⟩, trivial⟩⟩
end Go.Proofs.YtoledfhjmdpihaaGreat
/- The things themselves, without memory: seals, words, users, services, worlds; what the functions come to on them. -/
set_option linter.unusedVariables false
namespace Go.Proofs.YtoledfhjmdpihaaGreat

structure Seal where
  key : Int
  kind : Int
  a : Int
  b : Int
  c : Int
  d : Int
  e : Int
instance : DecidableEq Seal := fun x y => decidable_of_iff (x.key = y.key ∧ x.kind = y.kind ∧ x.a = y.a ∧ x.b = y.b ∧ x.c = y.c ∧ x.d = y.d ∧ x.e = y.e) (by cases x; cases y; simp)
structure Msg where
  kind : Int
  client : Int
  serv : Int
  nonce : Int
  seals : List Seal
instance : DecidableEq Msg := fun x y => decidable_of_iff (x.kind = y.kind ∧ x.client = y.client ∧ x.serv = y.serv ∧ x.nonce = y.nonce ∧ x.seals = y.seals) (by cases x; cases y; simp)
structure Want where
  serv : Int
  nonce : Int
instance : DecidableEq Want := fun x y => decidable_of_iff (x.serv = y.serv ∧ x.nonce = y.nonce) (by cases x; cases y; simp)
structure Cred where
  serv : Int
  key : Int
  til : Int
  ticket : Seal
instance : DecidableEq Cred := fun x y => decidable_of_iff (x.serv = y.serv ∧ x.key = y.key ∧ x.til = y.til ∧ x.ticket = y.ticket) (by cases x; cases y; simp)
structure Call where
  peer : Int
  key : Int
  time : Int
  num : Int
instance : DecidableEq Call := fun x y => decidable_of_iff (x.peer = y.peer ∧ x.key = y.key ∧ x.time = y.time ∧ x.num = y.num) (by cases x; cases y; simp)
structure Client where
  id : Int
  num : Int
  wants : List Want
  creds : List Cred
  sent : List Call
  met : List Call
instance : DecidableEq Client := fun x y => decidable_of_iff (x.id = y.id ∧ x.num = y.num ∧ x.wants = y.wants ∧ x.creds = y.creds ∧ x.sent = y.sent ∧ x.met = y.met) (by cases x; cases y; simp)
structure Serv where
  id : Int
  since : Int
  cache : List Seal
  took : List Call
instance : DecidableEq Serv := fun x y => decidable_of_iff (x.id = y.id ∧ x.since = y.since ∧ x.cache = y.cache ∧ x.took = y.took) (by cases x; cases y; simp)
structure Kdc where
  next : Int
  cache : List Seal
instance : DecidableEq Kdc := fun x y => decidable_of_iff (x.next = y.next ∧ x.cache = y.cache) (by cases x; cases y; simp)
structure World where
  now : Int
  kdc : Kdc
  clients : List Client
  servs : List Serv
  log : List Msg
  bad : Int
instance : DecidableEq World := fun x y => decidable_of_iff (x.now = y.now ∧ x.kdc = y.kdc ∧ x.clients = y.clients ∧ x.servs = y.servs ∧ x.log = y.log ∧ x.bad = y.bad) (by cases x; cases y; simp)
structure Event where
  kind : Int
  a : Int
  b : Int
  msg : Msg
abbrev Seal.zero : Seal := ⟨0, 0, 0, 0, 0, 0, 0⟩
abbrev Msg.zero : Msg := ⟨0, 0, 0, 0, []⟩

/-! ### Lists -/
theorem take_next {X : Type} {xs : List X} {k : Nat} {y : X} (h : xs[k]? = some y) : xs.take (k + 1) = xs.take k ++ [y] := by rw [List.take_add_one, h]; rfl
theorem take_all {X : Type} {xs : List X} {k : Nat} (h : xs.length ≤ k) : xs.take k = xs := List.take_of_length_le h
theorem all_next {X : Type} {l : List X} {z : X} {Q : X → Prop} (h : ∀ y ∈ l, Q y) (hz : Q z) : ∀ y ∈ l ++ [z], Q y := fun y hy => by
  rcases List.mem_append.1 hy with hy | hy
  · exact h y hy
  · rw [List.mem_singleton.1 hy]; exact hz
/-- Where the first of such is; -1, if there is none. -/
def idx {X : Type} (p : X → Bool) (xs : List X) : Int := match xs.findIdx? p with
  | some k => k
  | none => -1
theorem idx_none {X : Type} {p : X → Bool} {xs : List X} (h : ∀ y ∈ xs, p y = false) : idx p xs = -1 := by
  have : xs.findIdx? p = none := List.findIdx?_eq_none_iff.2 (fun x hx => by simp [h x hx])
  simp [idx, this]
theorem idx_some {X : Type} {p : X → Bool} {xs : List X} {k : Nat} {y : X} (hy : xs[k]? = some y) (hp : p y = true) (h : ∀ y ∈ xs.take k, p y = false) : idx p xs = k := by
  have : xs.findIdx? p = some k := by
    rw [List.findIdx?_eq_some_iff_getElem]
    have hlt := (List.getElem?_eq_some_iff.1 hy).1
    refine ⟨hlt, ?_, fun j hj => ?_⟩
    · rw [(List.getElem?_eq_some_iff.1 hy).2]; exact hp
    · have := h xs[j] (List.mem_take_iff_getElem.2 ⟨j, by omega, rfl⟩)
      simp [this]
  simp [idx, this]
theorem drop_next {X : Type} {xs ys : List X} {k : Nat} (h : xs.drop k = ys.drop k) : xs.drop (k + 1) = ys.drop (k + 1) := by
  rw [← List.drop_drop, ← List.drop_drop, h]
theorem set_take {X : Type} {xs : List X} {i : Nat} {y : X} (hi : i < xs.length) : (xs.take (i + 1)).set i y = xs.take i ++ [y] := by
  rw [List.take_add_one, List.getElem?_eq_getElem hi]
  rw [List.set_append_right _ _ (by rw [List.length_take]; omega)]
  have h9 : i - (xs.take i).length = 0 := by rw [List.length_take]; omega
  rw [h9]; rfl
theorem idx_cases {X : Type} (p : X → Bool) (xs : List X) : (idx p xs = -1 ∧ ∀ y ∈ xs, p y = false) ∨ ∃ k y, idx p xs = (k : Nat) ∧ xs[k]? = some y ∧ p y = true ∧ ∀ z ∈ xs.take k, p z = false := by
  cases h : xs.findIdx? p with
  | none => exact .inl ⟨by simp [idx, h], fun y hy => by simpa using List.findIdx?_eq_none_iff.1 h y hy⟩
  | some k =>
    obtain ⟨hlt, h1, h2⟩ := List.findIdx?_eq_some_iff_getElem.1 h
    refine .inr ⟨k, xs[k], by simp [idx, h], by simp [hlt], h1, fun z hz => ?_⟩
    obtain ⟨j, hj, rfl⟩ := List.mem_take_iff_getElem.1 hz
    simpa using h2 j (by omega)
theorem idx_pos {X : Type} (p : X → Bool) (xs : List X) : decide (0 ≤ idx p xs) = xs.any p := by
  cases h : xs.any p
  · have : idx p xs = -1 := idx_none (fun y hy => by have := List.any_eq_false.1 h y hy; simpa using this)
    simp [this]
  · obtain ⟨x, hx, hp⟩ := List.any_eq_true.1 h
    cases hf : xs.findIdx? p with
    | none => have := List.findIdx?_eq_none_iff.1 hf x hx; simp [hp] at this
    | some k => simp [idx, hf]
@[simp] theorem castb0 (n : Nat) : ((n : Int) == 0) = (n == 0) := by rw [Bool.eq_iff_iff]; simp
@[simp] theorem castb1 (n : Nat) : ((n : Int) == 1) = (n == 1) := by rw [Bool.eq_iff_iff]; simp; omega
@[simp] theorem castb2 (n : Nat) : ((n : Int) == 2) = (n == 2) := by rw [Bool.eq_iff_iff]; simp; omega
@[simp] theorem castb3 (n : Nat) : ((n : Int) == 3) = (n == 3) := by rw [Bool.eq_iff_iff]; simp; omega
theorem any_eq_mem2 {X : Type} [DecidableEq X] (x : X) (xs : List X) : xs.any (fun y => decide (y = x)) = decide (x ∈ xs) := by
  rw [Bool.eq_iff_iff]; simp
theorem any_mid {X : Type} {p : X → Bool} {xs : List X} {k : Nat} {y : X} (hy : xs[k]? = some y) (hp : p y = true) : xs.any p = true := List.any_eq_true.2 ⟨y, List.mem_of_getElem? hy, hp⟩
theorem any_none {X : Type} {p : X → Bool} {xs : List X} (h : ∀ y ∈ xs, p y = false) : xs.any p = false := List.any_eq_false.2 (fun y hy => by simp [h y hy])
theorem ne_at {X : Type} {xs ys : List X} {k : Nat} {y z : X} (hy : xs[k]? = some y) (hz : ys[k]? = some z) (h : y ≠ z) : xs ≠ ys := fun e => h (by rw [e, hz] at hy; exact (Option.some.inj hy).symm)
theorem eq_of_takes {X : Type} {xs ys : List X} {k : Nat} (h1 : xs.length ≤ k) (h2 : ys.length ≤ k) (h : xs.take k = ys.take k) : xs = ys := by rwa [take_all h1, take_all h2] at h
theorem any_eq_mem {X : Type} [DecidableEq X] (x : X) (xs : List X) : xs.any (fun y => decide (x = y)) = decide (x ∈ xs) := by
  rw [Bool.eq_iff_iff]; simp

def within (n a b : Int) : Bool := decide (a ≤ n) && decide (n ≤ b)
abbrev userOk (n : Int) : Bool := within n 1 3
abbrev servOk (n : Int) : Bool := within n 4 5
abbrev giverOk (n : Int) : Bool := within n 4 6
abbrev madeOk (n : Int) : Bool := within n 10 60
abbrev timeOk (n : Int) : Bool := within n 0 100
abbrev numOk (n : Int) : Bool := within n 1 60

def sealOk (s : Seal) : Bool :=
  if s.kind = 1 then s.key == s.b && userOk s.a && giverOk s.b && madeOk s.c && timeOk s.d && timeOk s.e
  else if s.kind = 2 then (userOk s.key || madeOk s.key) && giverOk s.a && madeOk s.b && numOk s.c && timeOk s.d && s.e == 0
  else if s.kind = 3 then madeOk s.key && userOk s.a && timeOk s.b && numOk s.c && s.d == 0 && s.e == 0
  else if s.kind = 4 then madeOk s.key && timeOk s.a && numOk s.b && s.c == 0 && s.d == 0 && s.e == 0
  else false
def holds (s : Seal) : Int := if s.kind = 1 then s.c else if s.kind = 2 then s.b else 0
def sealHolds (s : Seal) : Int := if sealOk s then holds s else 0
def shaped (m : Msg) : Bool :=
  if m.kind = 1 then userOk m.client && m.serv == 0 && numOk m.nonce && m.seals.length == 0
  else if m.kind = 2 ∨ m.kind = 4 then userOk m.client && m.serv == 0 && m.nonce == 0 && m.seals.length == 2
  else if m.kind = 3 then m.client == 0 && servOk m.serv && numOk m.nonce && m.seals.length == 2
  else if m.kind = 5 then m.client == 0 && servOk m.serv && m.nonce == 0 && m.seals.length == 2
  else if m.kind = 6 then userOk m.client && m.serv == 0 && m.nonce == 0 && m.seals.length == 1
  else false
def msgOk (m : Msg) : Bool := shaped m && m.seals.all sealOk
def authOk (s : Seal) : Bool := s.kind == 3 && sealOk s
def shown (t a : Seal) (id now : Int) : Bool := t.kind == 1 && t.key == id && within now t.d t.e && a.kind == 3 && a.key == t.c && a.a == t.a
def fresh (time now : Int) : Bool := within time (now - 3) now
end Go.Proofs.YtoledfhjmdpihaaGreat
/- What happens in a world, without memory. -/
set_option linter.unusedVariables false
namespace Go.Proofs.YtoledfhjmdpihaaGreat

def cacheOk (xs : List Seal) : Bool := xs.all authOk && decide xs.Nodup && decide (xs.length ≤ 20)
def kdcOk (k : Kdc) : Bool := within k.next 10 61 && cacheOk k.cache
def wantsOk (num : Int) : Int → List Want → Bool
  | _, [] => true
  | last, w :: r => giverOk w.serv && within w.nonce (last + 1) num && wantsOk num w.nonce r
def credOk (x : Cred) : Bool := giverOk x.serv && madeOk x.key && timeOk x.til && sealOk x.ticket
def credsOk (xs : List Cred) : Bool := xs.all credOk && decide (xs.map Cred.serv).Nodup
def sentOk (num : Int) : Int → List Call → Bool
  | _, [] => true
  | last, x :: r => servOk x.peer && madeOk x.key && timeOk x.time && within x.num (last + 1) num && sentOk num x.num r
def metOk (sent met : List Call) : Bool := met.all (fun x => decide (x ∈ sent)) && decide met.Nodup
def clientOk (c : Client) : Bool := userOk c.id && within c.num 0 60 && wantsOk c.num 0 c.wants && credsOk c.creds && sentOk c.num 0 c.sent && metOk c.sent c.met
def tookOk (x : Call) : Bool := userOk x.peer && madeOk x.key && timeOk x.time && numOk x.num
def servOk' (s : Serv) : Bool := servOk s.id && within s.since (-1) 100 && cacheOk s.cache && s.took.all tookOk
def idsFrom : Int → List Int → Bool
  | _, [] => true
  | n, x :: r => x == n && idsFrom (n + 1) r
def worldOk (w : World) : Bool := timeOk w.now && kdcOk w.kdc && w.clients.length == 3 && w.servs.length == 2 && decide (w.log.length ≤ 80) && within w.bad 0 3
  && w.clients.all clientOk && idsFrom 1 (w.clients.map Client.id) && w.servs.all servOk' && idsFrom 4 (w.servs.map Serv.id) && w.log.all msgOk

def freshen (cache : List Seal) (now : Int) : List Seal := cache.filter (fun s => fresh s.b now)
def canKeep (cache : List Seal) (auth : Seal) (now : Int) : Bool := fresh auth.b now && !decide (auth ∈ freshen cache now) && decide ((freshen cache now).length < 20)
def remember (cache : List Seal) (auth : Seal) (now : Int) : List Seal := if canKeep cache auth now then freshen cache now ++ [auth] else freshen cache now

def sealAt (m : Msg) (k : Nat) : Seal := m.seals.getD k Seal.zero
def mkTicket (serv user next now til : Int) : Seal := ⟨serv, 1, user, serv, next, now, til⟩
def mkPart (key serv next nonce til : Int) : Seal := ⟨key, 2, serv, next, nonce, til, 0⟩
def mkAuth (id key now num : Int) : Seal := ⟨key, 3, id, now, num, 0, 0⟩
def mkBack (key time num : Int) : Seal := ⟨key, 4, time, num, 0, 0, 0⟩
def giveMsg (k : Kdc) (kind user serv key nonce now til : Int) : Msg := ⟨kind, user, 0, 0, [mkTicket serv user k.next now til, mkPart key serv k.next nonce til]⟩

/-- Who gives tickets hears a word: as he is then, and what he answers. -/
def kdcAs (k : Kdc) (m : Msg) (now : Int) : Kdc × Option Msg :=
  if m.kind ≠ 1 ∨ msgOk m = false ∨ 60 < k.next then (k, none)
  else ({ k with next := k.next + 1 }, some (giveMsg k 2 m.client 6 m.client m.nonce now (if 100 < now + 12 then 100 else now + 12)))
def kdcTgs (k : Kdc) (m : Msg) (now : Int) : Kdc × Option Msg :=
  if m.kind ≠ 3 ∨ msgOk m = false ∨ 60 < k.next ∨ shown (sealAt m 0) (sealAt m 1) 6 now = false then (k, none)
  else if canKeep k.cache (sealAt m 1) now = false then ({ k with cache := remember k.cache (sealAt m 1) now }, none)
  else ({ next := k.next + 1, cache := remember k.cache (sealAt m 1) now }, some (giveMsg k 4 (sealAt m 0).a m.serv (sealAt m 0).c m.nonce now (sealAt m 0).e))

/-- Where what one has for somebody stands. -/
abbrev credIdx (c : Client) (serv : Int) : Int := idx (fun x => x.serv == serv) c.creds
abbrev Cred.none : Cred := ⟨0, 0, 0, Seal.zero⟩
def credAt (c : Client) (serv : Int) : Option Cred := c.creds.find? (fun x => x.serv == serv)
def usable (c : Client) (giver serv now many : Int) : Option Cred :=
  match credAt c giver with
  | some x => if 60 < c.num + many ∨ servOk serv = false ∨ x.til < now then none else some x
  | none => none
def clientAs (c : Client) : Client × Option Msg :=
  if 60 ≤ c.num then (c, none) else ({ c with num := c.num + 1, wants := c.wants ++ [⟨6, c.num + 1⟩] }, some ⟨1, c.id, 0, c.num + 1, []⟩)
def clientTgs (c : Client) (serv now : Int) : Client × Option Msg :=
  match usable c 6 serv now 2 with
  | none => (c, none)
  | some x => ({ c with num := c.num + 2, wants := c.wants ++ [⟨serv, c.num + 2⟩] }, some ⟨3, 0, serv, c.num + 2, [x.ticket, mkAuth c.id x.key now (c.num + 1)]⟩)
def clientAp (c : Client) (serv now : Int) : Client × Option Msg :=
  match usable c serv serv now 1 with
  | none => (c, none)
  | some x => ({ c with num := c.num + 1, sent := c.sent ++ [⟨serv, x.key, now, c.num + 1⟩] }, some ⟨5, 0, serv, 0, [x.ticket, mkAuth c.id x.key now (c.num + 1)]⟩)
/-- One has x now, where one had another one, or new. -/
def putCred (x : Cred) : List Cred → List Cred
  | [] => [x]
  | y :: r => if y.serv = x.serv then x :: r else y :: putCred x r
def given (c : Client) (ticket part : Seal) : Client :=
  if ticket.kind = 1 ∧ (⟨part.a, part.c⟩ : Want) ∈ c.wants then { c with wants := c.wants.erase ⟨part.a, part.c⟩, creds := putCred ⟨part.a, part.b, part.d, ticket⟩ c.creds } else c
def metAll (s : Seal) : List Call → List Call → List Call
  | [], met => met
  | x :: r, met => metAll s r (if s.kind = 4 ∧ x.key = s.key ∧ x.time = s.a ∧ x.num = s.b ∧ x ∉ met then met ++ [x] else met)
def met (c : Client) (s : Seal) : Client := { c with met := metAll s c.sent c.met }
def clientHear (c : Client) (m : Msg) : Client :=
  if msgOk m = false ∨ m.client ≠ c.id then c
  else if m.kind = 2 then
    if (sealAt m 1).kind = 2 ∧ (sealAt m 1).key = c.id ∧ (sealAt m 1).a = 6 then given c (sealAt m 0) (sealAt m 1) else c
  else if m.kind = 4 then
    match credAt c 6 with
    | some x => if (sealAt m 1).kind = 2 ∧ (sealAt m 1).key = x.key ∧ servOk (sealAt m 1).a = true then given c (sealAt m 0) (sealAt m 1) else c
    | none => c
  else if m.kind = 6 then met c (sealAt m 0)
  else c

def servHear (s : Serv) (m : Msg) (now : Int) : Serv × Option Msg :=
  if m.kind ≠ 5 ∨ msgOk m = false ∨ m.serv ≠ s.id ∨ shown (sealAt m 0) (sealAt m 1) s.id now = false ∨ (sealAt m 1).b ≤ s.since then (s, none)
  else if canKeep s.cache (sealAt m 1) now = false then ({ s with cache := remember s.cache (sealAt m 1) now }, none)
  else ({ s with cache := remember s.cache (sealAt m 1) now, took := s.took ++ [⟨(sealAt m 1).a, (sealAt m 1).key, (sealAt m 1).b, (sealAt m 1).c⟩] },
    some ⟨6, (sealAt m 1).a, 0, 0, [mkBack (sealAt m 1).key (sealAt m 1).b (sealAt m 1).c]⟩)
def servFall (s : Serv) (now : Int) : Serv := { s with cache := [], since := if s.since < now then now else s.since }

def kdcNew : Kdc := ⟨10, []⟩
def clientNew (id : Int) : Client := ⟨id, 0, [], [], [], []⟩
def servNew (id : Int) : Serv := ⟨id, -1, [], []⟩
def worldNew (bad : Int) : World := ⟨0, kdcNew, [clientNew 1, clientNew 2, clientNew 3], [servNew 4, servNew 5], [], bad⟩

/-- All seals that were sent, each once. -/
def addNew (out : List Seal) : List Seal → List Seal
  | [] => out
  | s :: r => addNew (if s ∈ out then out else out ++ [s]) r
def worldSeals (w : World) : List Seal := addNew [] (w.log.flatMap Msg.seals)
def own (w : World) : List Int := if w.bad = 0 then [] else [w.bad]

/-- The keys to which one comes: least set with the given ones, closed under opening. -/
inductive Comes (keys : List Int) (seals : List Seal) : Int → Prop
  | has {k : Int} (h : k ∈ keys) (hk : within k 1 60 = true) : Comes keys seals k
  | opens {s : Seal} (h : s ∈ seals) (hk : Comes keys seals s.key) (hp : 0 < sealHolds s) : Comes keys seals (sealHolds s)
noncomputable def comes (keys : List Int) (seals : List Seal) (k : Int) : Bool := @decide (Comes keys seals k) (Classical.propDecidable _)
noncomputable def knowKeys (keys : List Int) (seals : List Seal) : List Int := ((List.range 61).map (fun k : Nat => (k : Int))).filter (comes keys seals)
noncomputable def canMake (keys : List Int) (seals : List Seal) (s : Seal) : Bool := decide (s ∈ seals) || (comes keys seals s.key && (sealHolds s == 0 || comes keys seals (sealHolds s)))
noncomputable def knowBuild (keys : List Int) (seals : List Seal) (m : Msg) : Bool := msgOk m && m.seals.all (canMake keys seals)
noncomputable def knowRead (keys : List Int) (seals : List Seal) : List Seal := seals.filter (fun s => sealOk s && comes keys seals s.key)

def send (w : World) (m : Option Msg) : World := match m with
  | none => w
  | some m => if w.log.length < 80 then { w with log := w.log ++ [m] } else w
def setClient (w : World) (id : Int) (c : Client) : World := { w with clients := w.clients.set (id - 1).toNat c }
def setServ (w : World) (id : Int) (s : Serv) : World := { w with servs := w.servs.set (id - 4).toNat s }
def clientOf (w : World) (id : Int) : Client := w.clients.getD (id - 1).toNat (clientNew 0)
def servOf (w : World) (id : Int) : Serv := w.servs.getD (id - 4).toNat (servNew 0)
def ask (c : Client) (kind b now : Int) : Client × Option Msg := if kind = 1 then clientAs c else if kind = 2 then clientTgs c b now else clientAp c b now
def asks (w : World) (kind a b : Int) : World :=
  if userOk a = false ∨ a = w.bad then w else send (setClient w a (ask (clientOf w a) kind b w.now).1) (ask (clientOf w a) kind b w.now).2
def bringMsg (w : World) (m : Msg) : World :=
  if m.kind = 1 then send { w with kdc := (kdcAs w.kdc m w.now).1 } (kdcAs w.kdc m w.now).2
  else if m.kind = 3 then send { w with kdc := (kdcTgs w.kdc m w.now).1 } (kdcTgs w.kdc m w.now).2
  else if m.kind = 5 then send (setServ w m.serv (servHear (servOf w m.serv) m w.now).1) (servHear (servOf w m.serv) m w.now).2
  else if m.client = w.bad then w
  else setClient w m.client (clientHear (clientOf w m.client) m)
def bring (w : World) (at_ : Int) : World := if 0 ≤ at_ ∧ at_ < w.log.length then bringMsg w (w.log.getD at_.toNat Msg.zero) else w
def tick (w : World) : World := { w with now := if 100 < w.now + 1 then 100 else w.now + 1 }
def fall (w : World) (b : Int) : World := if servOk b then setServ w b (servFall (servOf w b) w.now) else w
noncomputable def step (w : World) (e : Event) : World :=
  if e.kind = 1 ∨ e.kind = 2 ∨ e.kind = 3 then asks w e.kind e.a e.b
  else if e.kind = 4 then bring w e.a
  else if e.kind = 5 then (if knowBuild (own w) (worldSeals w) e.msg then send w (some e.msg) else w)
  else if e.kind = 6 then tick w
  else if e.kind = 7 then fall w e.b
  else w
noncomputable def play (w : World) (es : List Event) : World := es.foldl step w
end Go.Proofs.YtoledfhjmdpihaaGreat
/- How the things lie in memory. -/
set_option linter.unusedVariables false
set_option linter.unusedSimpArgs false
namespace Go.Proofs.YtoledfhjmdpihaaGreat
open Go Go.Proofs Go.Proofs.YtoledfhjmdpihaaGreat.VE

abbrev sealC (s : Seal) : List Value := [I s.key, I s.kind, I s.a, I s.b, I s.c, I s.d, I s.e]
abbrev sealV (s : Seal) : Value := .agg (sealC s).toArray
def encSeal : Enc Seal := ⟨7, sealC, fun _ => rfl, fun _ => rfl⟩
abbrev wantC (x : Want) : List Value := [I x.serv, I x.nonce]
abbrev wantV (x : Want) : Value := .agg (wantC x).toArray
def encWant : Enc Want := ⟨2, wantC, fun _ => rfl, fun _ => rfl⟩
abbrev credC (x : Cred) : List Value := [I x.serv, I x.key, I x.til, I x.ticket.key, I x.ticket.kind, I x.ticket.a, I x.ticket.b, I x.ticket.c, I x.ticket.d, I x.ticket.e]
abbrev credV (x : Cred) : Value := .agg (credC x).toArray
def encCred : Enc Cred := ⟨10, credC, fun _ => rfl, fun _ => rfl⟩
abbrev callC (x : Call) : List Value := [I x.peer, I x.key, I x.time, I x.num]
abbrev callV (x : Call) : Value := .agg (callC x).toArray
def encCall : Enc Call := ⟨4, callC, fun _ => rfl, fun _ => rfl⟩
def encInt : Enc Int := ⟨1, fun n => [I n], fun _ => rfl, fun _ => rfl⟩
def encBool : Enc Bool := ⟨1, fun b => [B b], fun _ => rfl, fun _ => rfl⟩
def encByte : Enc Int := ⟨1, fun n => [.int .u8 n], fun _ => rfl, fun _ => rfl⟩

/-- A word, and where its seals lie. -/
abbrev msgC (m : Msg) (s : Sl) : List Value := [I m.kind, I m.client, I m.serv, I m.nonce, s.v]
abbrev msgV (m : Msg) (s : Sl) : Value := .agg (msgC m s).toArray
def encMsg : Enc (Msg × Sl) := ⟨5, fun p => msgC p.1 p.2, fun _ => rfl, fun _ => rfl⟩
abbrev MsgAt (L : List Ent) (m : Msg) (s : Sl) : Prop := SliceAt L encSeal s m.seals
end Go.Proofs.YtoledfhjmdpihaaGreat
/- The small functions: what they hand back. -/
set_option linter.unusedVariables false
set_option linter.unusedSectionVars false
set_option linter.unusedSimpArgs false
namespace Go.Proofs.YtoledfhjmdpihaaGreat
open Go Go.Proofs Go.Proofs.YtoledfhjmdpihaaGreat.VE
attribute [local irreducible] Val Op1 WO WR WA WC seqQ blockQ loopQ retQ

theorem c_within {L : List Ent} (n a b : Int) : RO Tryz.prog 85 [I n, I a, I b] L (B (within n a b)) := by
  refine Tri.of Tryz.func85 rfl rfl Tryz.ntmps85 rfl rfl ?_
  (repeat' (first | refine nX ?_ | (refine nA ?_; intro _) | refine nY ?_ | refine nR ?_ | refine WO_split rfl rfl (fun hg => ?_) (fun hg => ?_) | refine WR_split rfl rfl rfl (fun hg => ?_) (fun hg => ?_)))
  all_goals (refine ro_ret (by exact kR) (by exact kL) ?_; simp_all [packR, within] <;> omega)
theorem c_l6In {L : List Ent} (n a b : Int) : RO Tryz.prog 65 [I n, I a, I b] L (B (within n a b)) := by
  refine Tri.of Tryz.func65 rfl rfl Tryz.ntmps65 rfl rfl ?_
  (repeat' (first | refine nX ?_ | (refine nA ?_; intro _) | refine nY ?_ | refine nR ?_ | refine WO_split rfl rfl (fun hg => ?_) (fun hg => ?_) | refine WR_split rfl rfl rfl (fun hg => ?_) (fun hg => ?_)))
  all_goals (refine ro_ret (by exact kR) (by exact kL) ?_; simp_all [packR, within] <;> omega)
theorem c_userOk {L : List Ent} (n : Int) : RO Tryz.prog 150 [I n] L (B (userOk n)) := by
  refine Tri.of Tryz.func150 rfl rfl Tryz.ntmps150 rfl rfl ?_
  (repeat' (first | refine nX ?_ | (refine nA ?_; intro _) | (refine nW ?_; first | (refine op_call_id ?_; refine op_ro rfl rfl (by exact c_within _ _ _) ?_)) | refine nY ?_ | refine nR ?_))
  refine ro_ret (by exact kR) (by exact kL) ?_; rfl
theorem c_servOk {L : List Ent} (n : Int) : RO Tryz.prog 105 [I n] L (B (servOk n)) := by
  refine Tri.of Tryz.func105 rfl rfl Tryz.ntmps105 rfl rfl ?_
  (repeat' (first | refine nX ?_ | (refine nA ?_; intro _) | (refine nW ?_; first | (refine op_call_id ?_; refine op_ro rfl rfl (by exact c_within _ _ _) ?_)) | refine nY ?_ | refine nR ?_))
  refine ro_ret (by exact kR) (by exact kL) ?_; rfl
theorem giver_eq (n : Int) : giverOk n = (servOk n || n == 6) := by simp only [within]; grind
theorem c_giverOk {L : List Ent} (n : Int) : RO Tryz.prog 151 [I n] L (B (giverOk n)) := by
  refine Tri.of Tryz.func151 rfl rfl Tryz.ntmps151 rfl rfl ?_
  (repeat' (first | refine nX ?_ | (refine nA ?_; intro _) | (refine nW ?_; first | (refine op_call_id ?_; refine op_ro rfl rfl (by exact c_servOk _) ?_)) | refine nY ?_ | refine nR ?_ | refine WO_split rfl rfl (fun hg => ?_) (fun hg => ?_) | refine WR_split rfl rfl rfl (fun hg => ?_) (fun hg => ?_)))
  all_goals (refine ro_ret (by exact kR) (by exact kL) ?_; simp_all [packR, giver_eq])
theorem c_madeOk {L : List Ent} (n : Int) : RO Tryz.prog 153 [I n] L (B (madeOk n)) := by
  refine Tri.of Tryz.func153 rfl rfl Tryz.ntmps153 rfl rfl ?_
  (repeat' (first | refine nX ?_ | (refine nA ?_; intro _) | (refine nW ?_; first | (refine op_call_id ?_; refine op_ro rfl rfl (by exact c_within _ _ _) ?_)) | refine nY ?_ | refine nR ?_))
  refine ro_ret (by exact kR) (by exact kL) ?_; rfl
theorem c_timeOk {L : List Ent} (n : Int) : RO Tryz.prog 83 [I n] L (B (timeOk n)) := by
  refine Tri.of Tryz.func83 rfl rfl Tryz.ntmps83 rfl rfl ?_
  (repeat' (first | refine nX ?_ | (refine nA ?_; intro _) | (refine nW ?_; first | (refine op_call_id ?_; refine op_ro rfl rfl (by exact c_within _ _ _) ?_)) | refine nY ?_ | refine nR ?_))
  refine ro_ret (by exact kR) (by exact kL) ?_; rfl
theorem c_numOk {L : List Ent} (n : Int) : RO Tryz.prog 158 [I n] L (B (numOk n)) := by
  refine Tri.of Tryz.func158 rfl rfl Tryz.ntmps158 rfl rfl ?_
  (repeat' (first | refine nX ?_ | (refine nA ?_; intro _) | (refine nW ?_; first | (refine op_call_id ?_; refine op_ro rfl rfl (by exact c_within _ _ _) ?_)) | refine nY ?_ | refine nR ?_))
  refine ro_ret (by exact kR) (by exact kL) ?_; rfl
theorem c_l1User {L : List Ent} (n : Int) : RO Tryz.prog 126 [I n] L (B (userOk n)) := by
  refine Tri.of Tryz.func126 rfl rfl Tryz.ntmps126 rfl rfl ?_
  (repeat' (first | refine nX ?_ | (refine nA ?_; intro _) | (refine nW ?_; first | (refine op_call_id ?_; refine op_ro rfl rfl (by exact c_l6In _ _ _) ?_)) | refine nY ?_ | refine nR ?_))
  refine ro_ret (by exact kR) (by exact kL) ?_; rfl
theorem c_l1Serv {L : List Ent} (n : Int) : RO Tryz.prog 76 [I n] L (B (servOk n)) := by
  refine Tri.of Tryz.func76 rfl rfl Tryz.ntmps76 rfl rfl ?_
  (repeat' (first | refine nX ?_ | (refine nA ?_; intro _) | (refine nW ?_; first | (refine op_call_id ?_; refine op_ro rfl rfl (by exact c_l6In _ _ _) ?_)) | refine nY ?_ | refine nR ?_))
  refine ro_ret (by exact kR) (by exact kL) ?_; rfl
theorem c_l1Session {L : List Ent} (n : Int) : RO Tryz.prog 128 [I n] L (B (madeOk n)) := by
  refine Tri.of Tryz.func128 rfl rfl Tryz.ntmps128 rfl rfl ?_
  (repeat' (first | refine nX ?_ | (refine nA ?_; intro _) | (refine nW ?_; first | (refine op_call_id ?_; refine op_ro rfl rfl (by exact c_l6In _ _ _) ?_)) | refine nY ?_ | refine nR ?_))
  refine ro_ret (by exact kR) (by exact kL) ?_; rfl
theorem c_l1Time {L : List Ent} (n : Int) : RO Tryz.prog 63 [I n] L (B (timeOk n)) := by
  refine Tri.of Tryz.func63 rfl rfl Tryz.ntmps63 rfl rfl ?_
  (repeat' (first | refine nX ?_ | (refine nA ?_; intro _) | (refine nW ?_; first | (refine op_call_id ?_; refine op_ro rfl rfl (by exact c_l6In _ _ _) ?_)) | refine nY ?_ | refine nR ?_))
  refine ro_ret (by exact kR) (by exact kL) ?_; rfl
theorem c_l1Num {L : List Ent} (n : Int) : RO Tryz.prog 133 [I n] L (B (numOk n)) := by
  refine Tri.of Tryz.func133 rfl rfl Tryz.ntmps133 rfl rfl ?_
  (repeat' (first | refine nX ?_ | (refine nA ?_; intro _) | (refine nW ?_; first | (refine op_call_id ?_; refine op_ro rfl rfl (by exact c_l6In _ _ _) ?_)) | refine nY ?_ | refine nR ?_))
  refine ro_ret (by exact kR) (by exact kL) ?_; rfl

set_option maxHeartbeats 1000000 in
theorem c_sealOk {L : List Ent} (s : Seal) : RO Tryz.prog 154 [sealV s] L (B (sealOk s)) := by
  refine Tri.of Tryz.func154 rfl rfl Tryz.ntmps154 rfl rfl ?_
  (repeat' (first | refine nX ?_ | (refine nA ?_; intro _) | (refine nW ?_; first | (refine op_call_id ?_; refine op_ro rfl rfl (by first | exact c_userOk _ | exact c_giverOk _ | exact c_madeOk _ | exact c_timeOk _ | exact c_numOk _) ?_)) | refine nY ?_ | refine nR ?_ | refine WO_split rfl rfl (fun hg => ?_) (fun hg => ?_) | refine WR_split rfl rfl rfl (fun hg => ?_) (fun hg => ?_) | refine WC_cond rfl (fun hc => ?_) (fun hc => ?_)))
  all_goals (refine ro_ret (by exact kR) (by exact kL) ?_; simp_all [packR, sealOk])
end Go.Proofs.YtoledfhjmdpihaaGreat
/- Seals: ok, held, shown. -/
set_option linter.unusedVariables false
set_option linter.unusedSectionVars false
set_option linter.unusedSimpArgs false
namespace Go.Proofs.YtoledfhjmdpihaaGreat
open Go Go.Proofs Go.Proofs.YtoledfhjmdpihaaGreat.VE
attribute [local irreducible] Val Op1 WO WR WA WC seqQ blockQ loopQ retQ

set_option maxHeartbeats 1000000 in
theorem c_sSealOk {L : List Ent} (s : Seal) : RO Tryz.prog 129 [sealV s] L (B (sealOk s)) := by
  refine Tri.of Tryz.func129 rfl rfl Tryz.ntmps129 rfl rfl ?_
  (repeat' (first | refine nX ?_ | (refine nA ?_; intro _) | (refine nW ?_; first | (refine op_call_id ?_; refine op_ro rfl rfl (by first | exact c_l6In _ _ _ | exact c_l1User _ | exact c_l1Session _ | exact c_l1Time _ | exact c_l1Num _) ?_)) | refine nY ?_ | refine nR ?_ | refine WO_split rfl rfl (fun hg => ?_) (fun hg => ?_) | refine WR_split rfl rfl rfl (fun hg => ?_) (fun hg => ?_) | refine WC_cond rfl (fun hc => ?_) (fun hc => ?_)))
  all_goals (refine ro_ret (by exact kR) (by exact kL) ?_; simp_all [packR, sealOk])
theorem c_sealHolds {L : List Ent} (s : Seal) : RO Tryz.prog 181 [sealV s] L (I (sealHolds s)) := by
  refine Tri.of Tryz.func181 rfl rfl Tryz.ntmps181 rfl rfl ?_
  (repeat' (first | refine nX ?_ | (refine nA ?_; intro _) | (refine nW ?_; first | (refine op_call_id ?_; refine op_ro rfl rfl (by exact c_sealOk _) ?_)) | refine nY ?_ | refine nR ?_ | refine WO_split rfl rfl (fun hg => ?_) (fun hg => ?_) | refine WR_split rfl rfl rfl (fun hg => ?_) (fun hg => ?_) | refine WC_cond rfl (fun hc => ?_) (fun hc => ?_)))
  all_goals (refine ro_ret (by exact kR) (by exact kL) ?_; simp_all [packR, sealHolds, holds])
theorem c_l1Holds {L : List Ent} (s : Seal) : RO Tryz.prog 143 [sealV s] L (I (holds s)) := by
  refine Tri.of Tryz.func143 rfl rfl Tryz.ntmps143 rfl rfl ?_
  (repeat' (first | refine nX ?_ | (refine nA ?_; intro _) | refine nY ?_ | refine nR ?_ | refine WO_split rfl rfl (fun hg => ?_) (fun hg => ?_) | refine WR_split rfl rfl rfl (fun hg => ?_) (fun hg => ?_) | refine WC_cond rfl (fun hc => ?_) (fun hc => ?_)))
  all_goals (refine ro_ret (by exact kR) (by exact kL) ?_; simp_all [packR, holds])
theorem c_sSealHolds {L : List Ent} (s : Seal) : RO Tryz.prog 193 [sealV s] L (I (sealHolds s)) := by
  refine Tri.of Tryz.func193 rfl rfl Tryz.ntmps193 rfl rfl ?_
  (repeat' (first | refine nX ?_ | (refine nA ?_; intro _) | (refine nW ?_; first | (refine op_call_id ?_; refine op_ro rfl rfl (by first | exact c_sSealOk _ | exact c_l1Holds _) ?_)) | refine nY ?_ | refine nR ?_ | refine WO_split rfl rfl (fun hg => ?_) (fun hg => ?_) | refine WR_split rfl rfl rfl (fun hg => ?_) (fun hg => ?_) | refine WC_cond rfl (fun hc => ?_) (fun hc => ?_)))
  all_goals (refine ro_ret (by exact kR) (by exact kL) ?_; simp_all [packR, sealHolds])
theorem c_authOk {L : List Ent} (s : Seal) : RO Tryz.prog 197 [sealV s] L (B (authOk s)) := by
  refine Tri.of Tryz.func197 rfl rfl Tryz.ntmps197 rfl rfl ?_
  (repeat' (first | refine nX ?_ | (refine nA ?_; intro _) | (refine nW ?_; first | (refine op_call_id ?_; refine op_ro rfl rfl (by exact c_sealOk _) ?_)) | refine nY ?_ | refine nR ?_ | refine WO_split rfl rfl (fun hg => ?_) (fun hg => ?_) | refine WR_split rfl rfl rfl (fun hg => ?_) (fun hg => ?_) | refine WC_cond rfl (fun hc => ?_) (fun hc => ?_)))
  all_goals (refine ro_ret (by exact kR) (by exact kL) ?_; simp_all [packR, authOk])
set_option maxHeartbeats 1000000 in
theorem c_shown {L : List Ent} (t a : Seal) (id now : Int) : RO Tryz.prog 206 [sealV t, sealV a, I id, I now] L (B (shown t a id now)) := by
  refine Tri.of Tryz.func206 rfl rfl Tryz.ntmps206 rfl rfl ?_
  (repeat' (first | refine nX ?_ | (refine nA ?_; intro _) | (refine nW ?_; first | (refine op_call_id ?_; refine op_ro rfl rfl (by exact c_within _ _ _) ?_)) | refine nY ?_ | refine nR ?_ | refine WO_split rfl rfl (fun hg => ?_) (fun hg => ?_) | refine WR_split rfl rfl rfl (fun hg => ?_) (fun hg => ?_) | refine WC_cond rfl (fun hc => ?_) (fun hc => ?_)))
  all_goals (refine ro_ret (by exact kR) (by exact kL) ?_; simp_all [packR, shown])
set_option maxHeartbeats 1000000 in
theorem c_l11Shown {L : List Ent} (t a : Seal) (id now : Int) : RO Tryz.prog 189 [sealV t, sealV a, I id, I now] L (B (shown t a id now)) := by
  refine Tri.of Tryz.func189 rfl rfl Tryz.ntmps189 rfl rfl ?_
  (repeat' (first | refine nX ?_ | (refine nA ?_; intro _) | refine nY ?_ | refine nR ?_ | refine WO_split rfl rfl (fun hg => ?_) (fun hg => ?_) | refine WR_split rfl rfl rfl (fun hg => ?_) (fun hg => ?_) | refine WC_cond rfl (fun hc => ?_) (fun hc => ?_)))
  all_goals (refine ro_ret (by exact kR) (by exact kL) ?_; simp_all [packR, shown, within] <;> (try grind))
theorem c_l11Fresh {L : List Ent} (t now : Int) (h1 : -1000 ≤ t) (h2 : t ≤ 1000) (h3 : -1000 ≤ now) (h4 : now ≤ 1000) : RO Tryz.prog 214 [I t, I now] L (B (fresh t now)) := by
  refine Tri.of Tryz.func214 rfl rfl Tryz.ntmps214 rfl rfl ?_
  (repeat' (first | refine nX ?_ | (refine nA ?_; intro _) | refine nY ?_ | refine nR ?_ | refine WO_split rfl rfl (fun hg => ?_) (fun hg => ?_) | refine WR_split rfl rfl rfl (fun hg => ?_) (fun hg => ?_) | refine WC_cond rfl (fun hc => ?_) (fun hc => ?_)))
  all_goals (refine ro_ret (by exact kR) (by exact kL) ?_; simp_all [packR, fresh, within] <;> (try omega))
theorem c_l12Auth {L : List Ent} (id key now num : Int) : RO Tryz.prog 188 [I id, I key, I now, I num] L (sealV ⟨key, 3, id, now, num, 0, 0⟩) := by
  refine Tri.of Tryz.func188 rfl rfl Tryz.ntmps188 rfl rfl ?_
  (repeat' (first | refine nX ?_ | (refine nA ?_; intro _) | refine nY ?_ | refine nR ?_ | refine WO_split rfl rfl (fun hg => ?_) (fun hg => ?_) | refine WR_split rfl rfl rfl (fun hg => ?_) (fun hg => ?_) | refine WC_cond rfl (fun hc => ?_) (fun hc => ?_)))
  all_goals (refine ro_ret (by exact kR) (by exact kL) ?_; rfl)
end Go.Proofs.YtoledfhjmdpihaaGreat
/- When two structs are one. -/
set_option linter.unusedVariables false
set_option linter.unusedSectionVars false
set_option linter.unusedSimpArgs false
namespace Go.Proofs.YtoledfhjmdpihaaGreat
open Go Go.Proofs Go.Proofs.YtoledfhjmdpihaaGreat.VE
attribute [local irreducible] Val Op1 WO WR WA WC seqQ blockQ loopQ retQ
theorem eqIn_seal (x y : Seal) (d : Nat) (w : Go.World) : (Op.equalIn (d + 1 + 1) 155 (sealV x) (sealV y)).run Tryz.prog w = .ok (decide (x = y)) w := by
  have hU := Tryz.underlying155
  rw [run_equalIn_struct w (d + 1) _ _ _ (by simp only [Program.fieldsOf, hU]) (by kernel_rfl)]
  simp only [Program.fieldsOf, hU]
  have hg : decide (x = y) = (x.key == y.key && (x.kind == y.kind && (x.a == y.a && (x.b == y.b && (x.c == y.c && (x.d == y.d && (x.e == y.e && true))))))) := by
    cases x; cases y; rw [Bool.eq_iff_iff]; simp
  rw [hg]
  refine eqFields_int (by decide) Tryz.underlying3 rfl rfl ?_
  refine eqFields_int (by decide) Tryz.underlying3 rfl rfl ?_
  refine eqFields_int (by decide) Tryz.underlying3 rfl rfl ?_
  refine eqFields_int (by decide) Tryz.underlying3 rfl rfl ?_
  refine eqFields_int (by decide) Tryz.underlying3 rfl rfl ?_
  refine eqFields_int (by decide) Tryz.underlying3 rfl rfl ?_
  refine eqFields_int (by decide) Tryz.underlying3 rfl rfl ?_
  exact eqFields_nil
theorem eqT_seal (x y : Seal) : EqT Tryz.prog 155 (sealV x) (sealV y) (decide (x = y)) := ⟨by kernel_rfl, fun w => equal_in.trans (eqIn_seal x y (9997 + 1) w)⟩
theorem eqIn_want (x y : Want) (d : Nat) (w : Go.World) : (Op.equalIn (d + 1 + 1) 162 (wantV x) (wantV y)).run Tryz.prog w = .ok (decide (x = y)) w := by
  have hU := Tryz.underlying162
  rw [run_equalIn_struct w (d + 1) _ _ _ (by simp only [Program.fieldsOf, hU]) (by kernel_rfl)]
  simp only [Program.fieldsOf, hU]
  have hg : decide (x = y) = (x.serv == y.serv && (x.nonce == y.nonce && true)) := by
    cases x; cases y; rw [Bool.eq_iff_iff]; simp
  rw [hg]
  refine eqFields_int (by decide) Tryz.underlying3 rfl rfl ?_
  refine eqFields_int (by decide) Tryz.underlying3 rfl rfl ?_
  exact eqFields_nil
theorem eqIn_call (x y : Call) (d : Nat) (w : Go.World) : (Op.equalIn (d + 1 + 1) 169 (callV x) (callV y)).run Tryz.prog w = .ok (decide (x = y)) w := by
  have hU := Tryz.underlying169
  rw [run_equalIn_struct w (d + 1) _ _ _ (by simp only [Program.fieldsOf, hU]) (by kernel_rfl)]
  simp only [Program.fieldsOf, hU]
  have hg : decide (x = y) = (x.peer == y.peer && (x.key == y.key && (x.time == y.time && (x.num == y.num && true)))) := by
    cases x; cases y; rw [Bool.eq_iff_iff]; simp
  rw [hg]
  refine eqFields_int (by decide) Tryz.underlying3 rfl rfl ?_
  refine eqFields_int (by decide) Tryz.underlying3 rfl rfl ?_
  refine eqFields_int (by decide) Tryz.underlying3 rfl rfl ?_
  refine eqFields_int (by decide) Tryz.underlying3 rfl rfl ?_
  exact eqFields_nil
theorem eqIn_cred (x y : Cred) (d : Nat) (w : Go.World) : (Op.equalIn (d + 1 + 1 + 1) 164 (credV x) (credV y)).run Tryz.prog w = .ok (decide (x = y)) w := by
  have hU := Tryz.underlying164
  rw [run_equalIn_struct w (d + 1 + 1) _ _ _ (by simp only [Program.fieldsOf, hU]) (by kernel_rfl)]
  simp only [Program.fieldsOf, hU]
  have hg : decide (x = y) = (x.serv == y.serv && (x.key == y.key && (x.til == y.til && (decide (x.ticket = y.ticket) && true)))) := by
    cases x; cases y; rw [Bool.eq_iff_iff]; simp
  rw [hg]
  refine eqFields_int (by decide) Tryz.underlying3 rfl rfl ?_
  refine eqFields_int (by decide) Tryz.underlying3 rfl rfl ?_
  refine eqFields_int (by decide) Tryz.underlying3 rfl rfl ?_
  exact eqFields_sub (i := ⟨_, 7, _, _⟩) (by decide) rfl rfl rfl rfl (eqIn_seal x.ticket y.ticket d w) eqFields_nil
theorem eqT_want (x y : Want) : EqT Tryz.prog 162 (wantV x) (wantV y) (decide (x = y)) := ⟨by kernel_rfl, fun w => equal_in.trans (eqIn_want x y (9997 + 1) w)⟩
theorem eqT_call (x y : Call) : EqT Tryz.prog 169 (callV x) (callV y) (decide (x = y)) := ⟨by kernel_rfl, fun w => equal_in.trans (eqIn_call x y (9997 + 1) w)⟩
theorem eqT_cred (x y : Cred) : EqT Tryz.prog 164 (credV x) (credV y) (decide (x = y)) := ⟨by kernel_rfl, fun w => equal_in.trans (eqIn_cred x y 9997 w)⟩
end Go.Proofs.YtoledfhjmdpihaaGreat
/- Rows that are read: where something is in them, whether two are one. -/
set_option linter.unusedVariables false
set_option linter.unusedSectionVars false
set_option linter.unusedSimpArgs false
namespace Go.Proofs.YtoledfhjmdpihaaGreat
open Go Go.Proofs Go.Proofs.YtoledfhjmdpihaaGreat.VE
attribute [local irreducible] Val Op1 WO WR WA WC seqQ blockQ loopQ retQ
noncomputable def o131x4L4 : Array Oper := cops (cl (cl (cl (cr (cl (cl (cr (cl (cr (codeOf Tryz.f131))))))))))
noncomputable def o144x4L4 : Array Oper := cops (cl (cl (cl (cr (cl (cl (cr (cl (cr (codeOf Tryz.f144))))))))))
noncomputable def o200x4L4 : Array Oper := cops (cl (cr (cl (cl (cr (cr (cl (cl (cr (cl (cr (codeOf Tryz.f200))))))))))))
noncomputable def o210x4L4 : Array Oper := cops (cl (cr (cl (cl (cr (cr (cl (cl (cr (cl (cr (codeOf Tryz.f210))))))))))))
noncomputable def o219x4L4 : Array Oper := cops (cl (cr (cl (cl (cr (cr (cl (cl (cr (cl (cr (codeOf Tryz.f219))))))))))))
noncomputable def r131x4L4 : Run := (.st 0 0 (.st 1 0 (.st 2 0 (.st 3 1 (.st 4 1 (.st 5 0 .done))))))
noncomputable def r144x4L4 : Run := (.st 0 0 (.st 1 0 (.st 2 0 (.st 3 1 (.st 4 1 (.st 5 0 .done))))))
noncomputable def r200x4L4 : Run := (.st 0 1 (.st 1 0 (.st 2 0 (.st 3 0 (.st 4 1 (.st 5 0 .done))))))
noncomputable def r210x4L4 : Run := (.st 0 1 (.st 1 0 (.st 2 0 (.st 3 0 (.st 4 1 (.st 5 0 .done))))))
noncomputable def r219x4L4 : Run := (.st 0 1 (.st 1 0 (.st 2 0 (.st 3 0 (.st 4 1 (.st 5 0 .done))))))
set_option maxHeartbeats 1000000
theorem c_idxFuncimpl.Seal {L : List Ent} (s : Sl) (xs : List Seal) (f : FuncId) (cap : List Value) (p : Seal → Bool) (h : SliceAt L encSeal s xs) (hf : ∀ x ∈ xs, RO Tryz.prog f (.agg (encSeal.cells x).toArray :: cap) L (B (p x))) :
    RO Tryz.prog 202 [s.v, .func (.func f) [].toArray cap.toArray] L (I (idx p xs)) := by
  obtain ⟨a, n, c⟩ := s
  obtain ⟨rfl, hc, hb, hat⟩ := h
  simp only [big] at hb
  refine Tri.of Tryz.func202 rfl rfl Tryz.ntmps202 rfl rfl ?_
  (repeat' (first | refine nX ?_ | (refine nA ?_; intro _) | refine nY ?_ | refine nR ?_))
  refine WC_loop (fun mz Ez Mz => ∃ k : Nat, k + mz = (xs).length ∧ Ez = [(0, .slice a xs.length c), (1, .func (.func f) [].toArray cap.toArray), (7, I xs.length), (8, I k)] ∧ Mz = L ∧ (∀ y ∈ xs.take k, p y = false)) (xs).length (by exact kQ) (by exact kL) ⟨0, by omega, rfl, rfl, by simp⟩ ?_
  rintro mz Ez Mz ⟨k, hk, rfl, rfl, hin⟩
  rcases Nat.lt_or_ge k (xs).length with hlt | hge
  · obtain ⟨y, hy⟩ : ∃ y, (xs)[k]? = some y := ⟨(xs)[k], by simp [hlt]⟩; obtain ⟨b', o, cs, T, fr, rfl, hm, hrow⟩ := hat (by omega); have hrow' := hrow k y hy; have htk := take_next hy
    have hfy := hf y (List.mem_of_getElem? hy)
    (repeat' (first | refine nX ?_ | (refine nA ?_; intro _) | (refine nW ?_; first | refine op_rov rfl rfl rfl hfy ?_) | refine nY ?_ | refine nR ?_ | refine WC_condT rfl (by exact kD) ?_ | refine WC_condF rfl (by exact kD) ?_ | refine WC_cond rfl (fun hc => ?_) (fun hc => ?_)))
    · refine ro_ret (by exact kR) (by exact kL) ?_; simp only [packR]; rw [idx_some hy ‹_› hin]
    · exact loopQ_next ⟨mz - 1, _, _, by omega, by exact kQ, by exact kL, k + 1, by omega, rfl, rfl, by rw [htk]; exact all_next hin ‹_›⟩
  · (repeat' (first | refine nX ?_ | (refine nA ?_; intro _) | refine nY ?_ | refine nR ?_ | refine WC_condT rfl (by exact kD) ?_ | refine WC_condF rfl (by exact kD) ?_ | refine WC_cond rfl (fun hc => ?_) (fun hc => ?_)))
    rw [take_all hge] at hin
    refine ro_ret (by exact kR) (by exact kL) ?_; simp only [packR]; rw [idx_none hin]
theorem c_idxFuncimpl.Call {L : List Ent} (s : Sl) (xs : List Call) (f : FuncId) (cap : List Value) (p : Call → Bool) (h : SliceAt L encCall s xs) (hf : ∀ x ∈ xs, RO Tryz.prog f (.agg (encCall.cells x).toArray :: cap) L (B (p x))) :
    RO Tryz.prog 201 [s.v, .func (.func f) [].toArray cap.toArray] L (I (idx p xs)) := by
  obtain ⟨a, n, c⟩ := s
  obtain ⟨rfl, hc, hb, hat⟩ := h
  simp only [big] at hb
  refine Tri.of Tryz.func201 rfl rfl Tryz.ntmps201 rfl rfl ?_
  (repeat' (first | refine nX ?_ | (refine nA ?_; intro _) | refine nY ?_ | refine nR ?_))
  refine WC_loop (fun mz Ez Mz => ∃ k : Nat, k + mz = (xs).length ∧ Ez = [(0, .slice a xs.length c), (1, .func (.func f) [].toArray cap.toArray), (7, I xs.length), (8, I k)] ∧ Mz = L ∧ (∀ y ∈ xs.take k, p y = false)) (xs).length (by exact kQ) (by exact kL) ⟨0, by omega, rfl, rfl, by simp⟩ ?_
  rintro mz Ez Mz ⟨k, hk, rfl, rfl, hin⟩
  rcases Nat.lt_or_ge k (xs).length with hlt | hge
  · obtain ⟨y, hy⟩ : ∃ y, (xs)[k]? = some y := ⟨(xs)[k], by simp [hlt]⟩; obtain ⟨b', o, cs, T, fr, rfl, hm, hrow⟩ := hat (by omega); have hrow' := hrow k y hy; have htk := take_next hy
    have hfy := hf y (List.mem_of_getElem? hy)
    (repeat' (first | refine nX ?_ | (refine nA ?_; intro _) | (refine nW ?_; first | refine op_rov rfl rfl rfl hfy ?_) | refine nY ?_ | refine nR ?_ | refine WC_condT rfl (by exact kD) ?_ | refine WC_condF rfl (by exact kD) ?_ | refine WC_cond rfl (fun hc => ?_) (fun hc => ?_)))
    · refine ro_ret (by exact kR) (by exact kL) ?_; simp only [packR]; rw [idx_some hy ‹_› hin]
    · exact loopQ_next ⟨mz - 1, _, _, by omega, by exact kQ, by exact kL, k + 1, by omega, rfl, rfl, by rw [htk]; exact all_next hin ‹_›⟩
  · (repeat' (first | refine nX ?_ | (refine nA ?_; intro _) | refine nY ?_ | refine nR ?_ | refine WC_condT rfl (by exact kD) ?_ | refine WC_condF rfl (by exact kD) ?_ | refine WC_cond rfl (fun hc => ?_) (fun hc => ?_)))
    rw [take_all hge] at hin
    refine ro_ret (by exact kR) (by exact kL) ?_; simp only [packR]; rw [idx_none hin]
theorem c_idxFuncimpl.Cred {L : List Ent} (s : Sl) (xs : List Cred) (f : FuncId) (cap : List Value) (p : Cred → Bool) (h : SliceAt L encCred s xs) (hf : ∀ x ∈ xs, RO Tryz.prog f (.agg (encCred.cells x).toArray :: cap) L (B (p x))) :
    RO Tryz.prog 198 [s.v, .func (.func f) [].toArray cap.toArray] L (I (idx p xs)) := by
  obtain ⟨a, n, c⟩ := s
  obtain ⟨rfl, hc, hb, hat⟩ := h
  simp only [big] at hb
  refine Tri.of Tryz.func198 rfl rfl Tryz.ntmps198 rfl rfl ?_
  (repeat' (first | refine nX ?_ | (refine nA ?_; intro _) | refine nY ?_ | refine nR ?_))
  refine WC_loop (fun mz Ez Mz => ∃ k : Nat, k + mz = (xs).length ∧ Ez = [(0, .slice a xs.length c), (1, .func (.func f) [].toArray cap.toArray), (7, I xs.length), (8, I k)] ∧ Mz = L ∧ (∀ y ∈ xs.take k, p y = false)) (xs).length (by exact kQ) (by exact kL) ⟨0, by omega, rfl, rfl, by simp⟩ ?_
  rintro mz Ez Mz ⟨k, hk, rfl, rfl, hin⟩
  rcases Nat.lt_or_ge k (xs).length with hlt | hge
  · obtain ⟨y, hy⟩ : ∃ y, (xs)[k]? = some y := ⟨(xs)[k], by simp [hlt]⟩; obtain ⟨b', o, cs, T, fr, rfl, hm, hrow⟩ := hat (by omega); have hrow' := hrow k y hy; have htk := take_next hy
    have hfy := hf y (List.mem_of_getElem? hy)
    (repeat' (first | refine nX ?_ | (refine nA ?_; intro _) | (refine nW ?_; first | refine op_rov rfl rfl rfl hfy ?_) | refine nY ?_ | refine nR ?_ | refine WC_condT rfl (by exact kD) ?_ | refine WC_condF rfl (by exact kD) ?_ | refine WC_cond rfl (fun hc => ?_) (fun hc => ?_)))
    · refine ro_ret (by exact kR) (by exact kL) ?_; simp only [packR]; rw [idx_some hy ‹_› hin]
    · exact loopQ_next ⟨mz - 1, _, _, by omega, by exact kQ, by exact kL, k + 1, by omega, rfl, rfl, by rw [htk]; exact all_next hin ‹_›⟩
  · (repeat' (first | refine nX ?_ | (refine nA ?_; intro _) | refine nY ?_ | refine nR ?_ | refine WC_condT rfl (by exact kD) ?_ | refine WC_condF rfl (by exact kD) ?_ | refine WC_cond rfl (fun hc => ?_) (fun hc => ?_)))
    rw [take_all hge] at hin
    refine ro_ret (by exact kR) (by exact kL) ?_; simp only [packR]; rw [idx_none hin]
theorem c_idxFuncimpl.Msg {L : List Ent} (s : Sl) (xs : List (Msg×Sl)) (f : FuncId) (cap : List Value) (p : (Msg×Sl) → Bool) (h : SliceAt L encMsg s xs) (hf : ∀ x ∈ xs, RO Tryz.prog f (.agg (encMsg.cells x).toArray :: cap) L (B (p x))) :
    RO Tryz.prog 159 [s.v, .func (.func f) [].toArray cap.toArray] L (I (idx p xs)) := by
  obtain ⟨a, n, c⟩ := s
  obtain ⟨rfl, hc, hb, hat⟩ := h
  simp only [big] at hb
  refine Tri.of Tryz.func159 rfl rfl Tryz.ntmps159 rfl rfl ?_
  (repeat' (first | refine nX ?_ | (refine nA ?_; intro _) | refine nY ?_ | refine nR ?_))
  refine WC_loop (fun mz Ez Mz => ∃ k : Nat, k + mz = (xs).length ∧ Ez = [(0, .slice a xs.length c), (1, .func (.func f) [].toArray cap.toArray), (7, I xs.length), (8, I k)] ∧ Mz = L ∧ (∀ y ∈ xs.take k, p y = false)) (xs).length (by exact kQ) (by exact kL) ⟨0, by omega, rfl, rfl, by simp⟩ ?_
  rintro mz Ez Mz ⟨k, hk, rfl, rfl, hin⟩
  rcases Nat.lt_or_ge k (xs).length with hlt | hge
  · obtain ⟨y, hy⟩ : ∃ y, (xs)[k]? = some y := ⟨(xs)[k], by simp [hlt]⟩; obtain ⟨b', o, cs, T, fr, rfl, hm, hrow⟩ := hat (by omega); have hrow' := hrow k y hy; have htk := take_next hy
    have hfy := hf y (List.mem_of_getElem? hy)
    (repeat' (first | refine nX ?_ | (refine nA ?_; intro _) | (refine nW ?_; first | refine op_rov rfl rfl rfl hfy ?_) | refine nY ?_ | refine nR ?_ | refine WC_condT rfl (by exact kD) ?_ | refine WC_condF rfl (by exact kD) ?_ | refine WC_cond rfl (fun hc => ?_) (fun hc => ?_)))
    · refine ro_ret (by exact kR) (by exact kL) ?_; simp only [packR]; rw [idx_some hy ‹_› hin]
    · exact loopQ_next ⟨mz - 1, _, _, by omega, by exact kQ, by exact kL, k + 1, by omega, rfl, rfl, by rw [htk]; exact all_next hin ‹_›⟩
  · (repeat' (first | refine nX ?_ | (refine nA ?_; intro _) | refine nY ?_ | refine nR ?_ | refine WC_condT rfl (by exact kD) ?_ | refine WC_condF rfl (by exact kD) ?_ | refine WC_cond rfl (fun hc => ?_) (fun hc => ?_)))
    rw [take_all hge] at hin
    refine ro_ret (by exact kR) (by exact kL) ?_; simp only [packR]; rw [idx_none hin]
theorem c_containsFuncimpl.Seal {L : List Ent} (s : Sl) (xs : List Seal) (f : FuncId) (cap : List Value) (p : Seal → Bool) (h : SliceAt L encSeal s xs) (hf : ∀ x ∈ xs, RO Tryz.prog f (.agg (encSeal.cells x).toArray :: cap) L (B (p x))) :
    RO Tryz.prog 161 [s.v, .func (.func f) [].toArray cap.toArray] L (B (xs.any p)) := by
  refine Tri.of Tryz.func161 rfl rfl Tryz.ntmps161 rfl rfl ?_
  (repeat' (first | refine nX ?_ | (refine nA ?_; intro _) | (refine nW ?_; first | (refine op_call_id ?_; refine op_ro rfl rfl (by exact c_idxFuncimpl.Seal s xs f cap p h hf) ?_)) | refine nY ?_ | refine nR ?_))
  refine ro_ret (by exact kR) (by exact kL) ?_; simp only [packR]; rw [← idx_pos]
theorem c_containsFuncimpl.Call {L : List Ent} (s : Sl) (xs : List Call) (f : FuncId) (cap : List Value) (p : Call → Bool) (h : SliceAt L encCall s xs) (hf : ∀ x ∈ xs, RO Tryz.prog f (.agg (encCall.cells x).toArray :: cap) L (B (p x))) :
    RO Tryz.prog 156 [s.v, .func (.func f) [].toArray cap.toArray] L (B (xs.any p)) := by
  refine Tri.of Tryz.func156 rfl rfl Tryz.ntmps156 rfl rfl ?_
  (repeat' (first | refine nX ?_ | (refine nA ?_; intro _) | (refine nW ?_; first | (refine op_call_id ?_; refine op_ro rfl rfl (by exact c_idxFuncimpl.Call s xs f cap p h hf) ?_)) | refine nY ?_ | refine nR ?_))
  refine ro_ret (by exact kR) (by exact kL) ?_; simp only [packR]; rw [← idx_pos]
theorem c_containsFuncimpl.Msg {L : List Ent} (s : Sl) (xs : List (Msg×Sl)) (f : FuncId) (cap : List Value) (p : (Msg×Sl) → Bool) (h : SliceAt L encMsg s xs) (hf : ∀ x ∈ xs, RO Tryz.prog f (.agg (encMsg.cells x).toArray :: cap) L (B (p x))) :
    RO Tryz.prog 88 [s.v, .func (.func f) [].toArray cap.toArray] L (B (xs.any p)) := by
  refine Tri.of Tryz.func88 rfl rfl Tryz.ntmps88 rfl rfl ?_
  (repeat' (first | refine nX ?_ | (refine nA ?_; intro _) | (refine nW ?_; first | (refine op_call_id ?_; refine op_ro rfl rfl (by exact c_idxFuncimpl.Msg s xs f cap p h hf) ?_)) | refine nY ?_ | refine nR ?_))
  refine ro_ret (by exact kR) (by exact kL) ?_; simp only [packR]; rw [← idx_pos]
theorem c_indeximpl.Seal {L : List Ent} (s : Sl) (xs : List Seal) (x : Seal) (h : SliceAt L encSeal s xs) : RO Tryz.prog 210 [s.v, sealV x] L (I (idx (fun y => decide (x = y)) xs)) := by
  obtain ⟨a, n, c⟩ := s
  obtain ⟨rfl, hc, hb, hat⟩ := h
  simp only [big] at hb
  refine Tri.of Tryz.func210 rfl rfl Tryz.ntmps210 rfl rfl ?_
  (repeat' (first | refine nX ?_ | (refine nA ?_; intro _) | refine nY ?_ | refine WA_alt ?_ ?_ | refine nR ?_ | refine WC_drawL (id := 4) (ops := o210x4L4) r210x4L4 (by kernel_rfl) rfl ?_))
  rename_i bx
  refine WC_loop (fun mz Ez Mz => ∃ k : Nat, k + mz = (xs).length ∧ Ez = [(0, .slice a xs.length c), (3, .pointer (some ⟨bx, 0, none⟩)), (7, I xs.length), (8, I k)] ∧ Mz = (bx, cellsO (encSeal.cells x) 155) :: L ∧ (∀ y ∈ xs.take k, decide (x = y) = false)) (xs).length (by exact kQ) (by exact kL) ⟨0, by omega, rfl, rfl, by simp⟩ ?_
  rintro mz Ez Mz ⟨k, hk, rfl, rfl, hin⟩
  rcases Nat.lt_or_ge k (xs).length with hlt | hge
  · obtain ⟨y, hy⟩ : ∃ y, (xs)[k]? = some y := ⟨(xs)[k], by simp [hlt]⟩; obtain ⟨b', o, cs, T, fr, rfl, hm, hrow⟩ := hat (by omega); have hrow' := hrow k y hy; have htk := take_next hy
    (repeat' (first | refine nX ?_ | (refine nA ?_; intro _) | (refine nW ?_; first | refine op_val rfl (by exact val_eql_agg rfl rfl (eqT_seal _ _)) ?_) | (refine WR_id ?_; refine WR_pure rfl rfl rfl (by exact val_eql_agg rfl rfl (eqT_seal _ _)) ?_) | refine nY ?_ | refine WA_alt ?_ ?_ | refine nR ?_ | refine WC_drawL (id := 4) (ops := o210x4L4) r210x4L4 (by kernel_rfl) rfl ?_ | refine WC_condT rfl (by exact kD) ?_ | refine WC_condF rfl (by exact kD) ?_ | refine WC_cond rfl (fun hc => ?_) (fun hc => ?_)))
    · refine ro_ret (by exact kR) (by exact kL) ?_; simp only [packR]; rw [idx_some (p := fun y => decide (x = y)) hy ‹_› hin]
    · exact loopQ_next ⟨mz - 1, _, _, by omega, by exact kQ, by exact kL, k + 1, by omega, rfl, rfl, by rw [htk]; exact all_next hin ‹_›⟩
  · (repeat' (first | refine nX ?_ | (refine nA ?_; intro _) | refine nY ?_ | refine WA_alt ?_ ?_ | refine nR ?_ | refine WC_drawL (id := 4) (ops := o210x4L4) r210x4L4 (by kernel_rfl) rfl ?_ | refine WC_condT rfl (by exact kD) ?_ | refine WC_condF rfl (by exact kD) ?_ | refine WC_cond rfl (fun hc => ?_) (fun hc => ?_)))
    rw [take_all hge] at hin
    refine ro_ret (by exact kR) (by exact kL) ?_; simp only [packR]; rw [idx_none (p := fun y => decide (x = y)) hin]
theorem c_indeximpl.Call {L : List Ent} (s : Sl) (xs : List Call) (x : Call) (h : SliceAt L encCall s xs) : RO Tryz.prog 200 [s.v, callV x] L (I (idx (fun y => decide (x = y)) xs)) := by
  obtain ⟨a, n, c⟩ := s
  obtain ⟨rfl, hc, hb, hat⟩ := h
  simp only [big] at hb
  refine Tri.of Tryz.func200 rfl rfl Tryz.ntmps200 rfl rfl ?_
  (repeat' (first | refine nX ?_ | (refine nA ?_; intro _) | refine nY ?_ | refine WA_alt ?_ ?_ | refine nR ?_ | refine WC_drawL (id := 4) (ops := o200x4L4) r200x4L4 (by kernel_rfl) rfl ?_))
  rename_i bx
  refine WC_loop (fun mz Ez Mz => ∃ k : Nat, k + mz = (xs).length ∧ Ez = [(0, .slice a xs.length c), (3, .pointer (some ⟨bx, 0, none⟩)), (7, I xs.length), (8, I k)] ∧ Mz = (bx, cellsO (encCall.cells x) 169) :: L ∧ (∀ y ∈ xs.take k, decide (x = y) = false)) (xs).length (by exact kQ) (by exact kL) ⟨0, by omega, rfl, rfl, by simp⟩ ?_
  rintro mz Ez Mz ⟨k, hk, rfl, rfl, hin⟩
  rcases Nat.lt_or_ge k (xs).length with hlt | hge
  · obtain ⟨y, hy⟩ : ∃ y, (xs)[k]? = some y := ⟨(xs)[k], by simp [hlt]⟩; obtain ⟨b', o, cs, T, fr, rfl, hm, hrow⟩ := hat (by omega); have hrow' := hrow k y hy; have htk := take_next hy
    (repeat' (first | refine nX ?_ | (refine nA ?_; intro _) | (refine nW ?_; first | refine op_val rfl (by exact val_eql_agg rfl rfl (eqT_call _ _)) ?_) | (refine WR_id ?_; refine WR_pure rfl rfl rfl (by exact val_eql_agg rfl rfl (eqT_call _ _)) ?_) | refine nY ?_ | refine WA_alt ?_ ?_ | refine nR ?_ | refine WC_drawL (id := 4) (ops := o200x4L4) r200x4L4 (by kernel_rfl) rfl ?_ | refine WC_condT rfl (by exact kD) ?_ | refine WC_condF rfl (by exact kD) ?_ | refine WC_cond rfl (fun hc => ?_) (fun hc => ?_)))
    · refine ro_ret (by exact kR) (by exact kL) ?_; simp only [packR]; rw [idx_some (p := fun y => decide (x = y)) hy ‹_› hin]
    · exact loopQ_next ⟨mz - 1, _, _, by omega, by exact kQ, by exact kL, k + 1, by omega, rfl, rfl, by rw [htk]; exact all_next hin ‹_›⟩
  · (repeat' (first | refine nX ?_ | (refine nA ?_; intro _) | refine nY ?_ | refine WA_alt ?_ ?_ | refine nR ?_ | refine WC_drawL (id := 4) (ops := o200x4L4) r200x4L4 (by kernel_rfl) rfl ?_ | refine WC_condT rfl (by exact kD) ?_ | refine WC_condF rfl (by exact kD) ?_ | refine WC_cond rfl (fun hc => ?_) (fun hc => ?_)))
    rw [take_all hge] at hin
    refine ro_ret (by exact kR) (by exact kL) ?_; simp only [packR]; rw [idx_none (p := fun y => decide (x = y)) hin]
theorem c_indeximpl.Want {L : List Ent} (s : Sl) (xs : List Want) (x : Want) (h : SliceAt L encWant s xs) : RO Tryz.prog 219 [s.v, wantV x] L (I (idx (fun y => decide (x = y)) xs)) := by
  obtain ⟨a, n, c⟩ := s
  obtain ⟨rfl, hc, hb, hat⟩ := h
  simp only [big] at hb
  refine Tri.of Tryz.func219 rfl rfl Tryz.ntmps219 rfl rfl ?_
  (repeat' (first | refine nX ?_ | (refine nA ?_; intro _) | refine nY ?_ | refine WA_alt ?_ ?_ | refine nR ?_ | refine WC_drawL (id := 4) (ops := o219x4L4) r219x4L4 (by kernel_rfl) rfl ?_))
  rename_i bx
  refine WC_loop (fun mz Ez Mz => ∃ k : Nat, k + mz = (xs).length ∧ Ez = [(0, .slice a xs.length c), (3, .pointer (some ⟨bx, 0, none⟩)), (7, I xs.length), (8, I k)] ∧ Mz = (bx, cellsO (encWant.cells x) 162) :: L ∧ (∀ y ∈ xs.take k, decide (x = y) = false)) (xs).length (by exact kQ) (by exact kL) ⟨0, by omega, rfl, rfl, by simp⟩ ?_
  rintro mz Ez Mz ⟨k, hk, rfl, rfl, hin⟩
  rcases Nat.lt_or_ge k (xs).length with hlt | hge
  · obtain ⟨y, hy⟩ : ∃ y, (xs)[k]? = some y := ⟨(xs)[k], by simp [hlt]⟩; obtain ⟨b', o, cs, T, fr, rfl, hm, hrow⟩ := hat (by omega); have hrow' := hrow k y hy; have htk := take_next hy
    (repeat' (first | refine nX ?_ | (refine nA ?_; intro _) | (refine nW ?_; first | refine op_val rfl (by exact val_eql_agg rfl rfl (eqT_want _ _)) ?_) | (refine WR_id ?_; refine WR_pure rfl rfl rfl (by exact val_eql_agg rfl rfl (eqT_want _ _)) ?_) | refine nY ?_ | refine WA_alt ?_ ?_ | refine nR ?_ | refine WC_drawL (id := 4) (ops := o219x4L4) r219x4L4 (by kernel_rfl) rfl ?_ | refine WC_condT rfl (by exact kD) ?_ | refine WC_condF rfl (by exact kD) ?_ | refine WC_cond rfl (fun hc => ?_) (fun hc => ?_)))
    · refine ro_ret (by exact kR) (by exact kL) ?_; simp only [packR]; rw [idx_some (p := fun y => decide (x = y)) hy ‹_› hin]
    · exact loopQ_next ⟨mz - 1, _, _, by omega, by exact kQ, by exact kL, k + 1, by omega, rfl, rfl, by rw [htk]; exact all_next hin ‹_›⟩
  · (repeat' (first | refine nX ?_ | (refine nA ?_; intro _) | refine nY ?_ | refine WA_alt ?_ ?_ | refine nR ?_ | refine WC_drawL (id := 4) (ops := o219x4L4) r219x4L4 (by kernel_rfl) rfl ?_ | refine WC_condT rfl (by exact kD) ?_ | refine WC_condF rfl (by exact kD) ?_ | refine WC_cond rfl (fun hc => ?_) (fun hc => ?_)))
    rw [take_all hge] at hin
    refine ro_ret (by exact kR) (by exact kL) ?_; simp only [packR]; rw [idx_none (p := fun y => decide (x = y)) hin]
theorem c_containsimpl.Seal {L : List Ent} (s : Sl) (xs : List Seal) (x : Seal) (h : SliceAt L encSeal s xs) : RO Tryz.prog 182 [s.v, sealV x] L (B (decide (x ∈ xs))) := by
  refine Tri.of Tryz.func182 rfl rfl Tryz.ntmps182 rfl rfl ?_
  (repeat' (first | refine nX ?_ | (refine nA ?_; intro _) | (refine nW ?_; first | (refine op_call_id ?_; refine op_ro rfl rfl (by exact c_indeximpl.Seal s xs x (h.mono (by exact kS))) ?_)) | refine nY ?_ | refine nR ?_))
  refine ro_ret (by exact kR) (by exact kL) ?_; simp only [packR]; rw [← any_eq_mem, ← idx_pos]
theorem c_containsimpl.Call {L : List Ent} (s : Sl) (xs : List Call) (x : Call) (h : SliceAt L encCall s xs) : RO Tryz.prog 155 [s.v, callV x] L (B (decide (x ∈ xs))) := by
  refine Tri.of Tryz.func155 rfl rfl Tryz.ntmps155 rfl rfl ?_
  (repeat' (first | refine nX ?_ | (refine nA ?_; intro _) | (refine nW ?_; first | (refine op_call_id ?_; refine op_ro rfl rfl (by exact c_indeximpl.Call s xs x (h.mono (by exact kS))) ?_)) | refine nY ?_ | refine nR ?_))
  refine ro_ret (by exact kR) (by exact kL) ?_; simp only [packR]; rw [← any_eq_mem, ← idx_pos]
theorem c_spec.l3Among {L : List Ent} (s : Sl) (xs : List Seal) (x : Seal) (h : SliceAt L encSeal s xs) : RO Tryz.prog 144 [s.v, sealV x] L (B (decide (x ∈ xs))) := by
  obtain ⟨a, n, c⟩ := s
  obtain ⟨rfl, hc, hb, hat⟩ := h
  simp only [big] at hb
  refine Tri.of Tryz.func144 rfl rfl Tryz.ntmps144 rfl rfl ?_
  (repeat' (first | refine nX ?_ | (refine nA ?_; intro _) | refine nY ?_ | refine WA_alt ?_ ?_ | refine nR ?_ | refine WC_drawL (id := 4) (ops := o144x4L4) r144x4L4 (by kernel_rfl) rfl ?_))
  rename_i bx
  refine WC_loop (fun mz Ez Mz => ∃ k : Nat, k + mz = (xs).length ∧ Ez = [(0, .slice a xs.length c), (3, .pointer (some ⟨bx, 0, none⟩)), (5, I k)] ∧ Mz = (bx, cellsO (encSeal.cells x) 155) :: L ∧ (∀ y ∈ xs.take k, decide (y = x) = false)) (xs).length (by exact kQ) (by exact kL) ⟨0, by omega, rfl, rfl, by simp⟩ ?_
  rintro mz Ez Mz ⟨k, hk, rfl, rfl, hin⟩
  rcases Nat.lt_or_ge k (xs).length with hlt | hge
  · obtain ⟨y, hy⟩ : ∃ y, (xs)[k]? = some y := ⟨(xs)[k], by simp [hlt]⟩; obtain ⟨b', o, cs, T, fr, rfl, hm, hrow⟩ := hat (by omega); have hrow' := hrow k y hy; have htk := take_next hy
    (repeat' (first | refine nX ?_ | (refine nA ?_; intro _) | (refine nW ?_; first | refine op_val rfl (by exact val_eql_agg rfl rfl (eqT_seal _ _)) ?_) | (refine WR_id ?_; refine WR_pure rfl rfl rfl (by exact val_eql_agg rfl rfl (eqT_seal _ _)) ?_) | refine nY ?_ | refine WA_alt ?_ ?_ | refine nR ?_ | refine WC_drawL (id := 4) (ops := o144x4L4) r144x4L4 (by kernel_rfl) rfl ?_ | refine WC_condT rfl (by exact kD) ?_ | refine WC_condF rfl (by exact kD) ?_ | refine WC_cond rfl (fun hc => ?_) (fun hc => ?_)))
    · refine ro_ret (by exact kR) (by exact kL) ?_; simp only [packR]; rw [← any_eq_mem2, any_mid (p := fun y => decide (y = x)) hy ‹_›]
    · exact loopQ_next ⟨mz - 1, _, _, by omega, by exact kQ, by exact kL, k + 1, by omega, rfl, rfl, by rw [htk]; exact all_next hin ‹_›⟩
  · (repeat' (first | refine nX ?_ | (refine nA ?_; intro _) | refine nY ?_ | refine WA_alt ?_ ?_ | refine nR ?_ | refine WC_drawL (id := 4) (ops := o144x4L4) r144x4L4 (by kernel_rfl) rfl ?_ | refine WC_condT rfl (by exact kD) ?_ | refine WC_condF rfl (by exact kD) ?_ | refine WC_cond rfl (fun hc => ?_) (fun hc => ?_)))
    rw [take_all hge] at hin
    refine ro_ret (by exact kR) (by exact kL) ?_; simp only [packR]; rw [← any_eq_mem2, any_none (p := fun y => decide (y = x)) hin]
theorem c_spec.l12Called {L : List Ent} (s : Sl) (xs : List Call) (x : Call) (h : SliceAt L encCall s xs) : RO Tryz.prog 131 [s.v, callV x] L (B (decide (x ∈ xs))) := by
  obtain ⟨a, n, c⟩ := s
  obtain ⟨rfl, hc, hb, hat⟩ := h
  simp only [big] at hb
  refine Tri.of Tryz.func131 rfl rfl Tryz.ntmps131 rfl rfl ?_
  (repeat' (first | refine nX ?_ | (refine nA ?_; intro _) | refine nY ?_ | refine WA_alt ?_ ?_ | refine nR ?_ | refine WC_drawL (id := 4) (ops := o131x4L4) r131x4L4 (by kernel_rfl) rfl ?_))
  rename_i bx
  refine WC_loop (fun mz Ez Mz => ∃ k : Nat, k + mz = (xs).length ∧ Ez = [(0, .slice a xs.length c), (3, .pointer (some ⟨bx, 0, none⟩)), (5, I k)] ∧ Mz = (bx, cellsO (encCall.cells x) 169) :: L ∧ (∀ y ∈ xs.take k, decide (y = x) = false)) (xs).length (by exact kQ) (by exact kL) ⟨0, by omega, rfl, rfl, by simp⟩ ?_
  rintro mz Ez Mz ⟨k, hk, rfl, rfl, hin⟩
  rcases Nat.lt_or_ge k (xs).length with hlt | hge
  · obtain ⟨y, hy⟩ : ∃ y, (xs)[k]? = some y := ⟨(xs)[k], by simp [hlt]⟩; obtain ⟨b', o, cs, T, fr, rfl, hm, hrow⟩ := hat (by omega); have hrow' := hrow k y hy; have htk := take_next hy
    (repeat' (first | refine nX ?_ | (refine nA ?_; intro _) | (refine nW ?_; first | refine op_val rfl (by exact val_eql_agg rfl rfl (eqT_call _ _)) ?_) | (refine WR_id ?_; refine WR_pure rfl rfl rfl (by exact val_eql_agg rfl rfl (eqT_call _ _)) ?_) | refine nY ?_ | refine WA_alt ?_ ?_ | refine nR ?_ | refine WC_drawL (id := 4) (ops := o131x4L4) r131x4L4 (by kernel_rfl) rfl ?_ | refine WC_condT rfl (by exact kD) ?_ | refine WC_condF rfl (by exact kD) ?_ | refine WC_cond rfl (fun hc => ?_) (fun hc => ?_)))
    · refine ro_ret (by exact kR) (by exact kL) ?_; simp only [packR]; rw [← any_eq_mem2, any_mid (p := fun y => decide (y = x)) hy ‹_›]
    · exact loopQ_next ⟨mz - 1, _, _, by omega, by exact kQ, by exact kL, k + 1, by omega, rfl, rfl, by rw [htk]; exact all_next hin ‹_›⟩
  · (repeat' (first | refine nX ?_ | (refine nA ?_; intro _) | refine nY ?_ | refine WA_alt ?_ ?_ | refine nR ?_ | refine WC_drawL (id := 4) (ops := o131x4L4) r131x4L4 (by kernel_rfl) rfl ?_ | refine WC_condT rfl (by exact kD) ?_ | refine WC_condF rfl (by exact kD) ?_ | refine WC_cond rfl (fun hc => ?_) (fun hc => ?_)))
    rw [take_all hge] at hin
    refine ro_ret (by exact kR) (by exact kL) ?_; simp only [packR]; rw [← any_eq_mem2, any_none (p := fun y => decide (y = x)) hin]
end Go.Proofs.YtoledfhjmdpihaaGreat
/- Words: in form. -/
set_option linter.unusedVariables false
set_option linter.unusedSectionVars false
set_option linter.unusedSimpArgs false
namespace Go.Proofs.YtoledfhjmdpihaaGreat
open Go Go.Proofs Go.Proofs.YtoledfhjmdpihaaGreat.VE
attribute [local irreducible] Val Op1 WO WR WA WC seqQ blockQ loopQ retQ
noncomputable def o160x1L5 : Array Oper := cops (cl (cr (codeOf Tryz.f160)))
noncomputable def r160x1L5 : Run := (.st 0 0 (.st 1 1 (.st 2 0 (.st 3 0 (.st 4 1 (.st 5 0 (.st 6 0 (.st 7 1 (.st 8 0 (.st 9 0 (.st 10 0 (.st 11 0 .done))))))))))))
set_option maxHeartbeats 2000000
theorem c_shaped {L : List Ent} (m : Msg) (s : Sl) (h : MsgAt L m s) : RO Tryz.prog 160 [msgV m s] L (B (shaped m)) := by
  obtain ⟨a, n, c⟩ := s
  obtain ⟨rfl, hc, hb, hat⟩ := h
  refine Tri.of Tryz.func160 rfl rfl Tryz.ntmps160 rfl rfl ?_
  (repeat' (first | refine nX ?_ | (refine nA ?_; intro _) | (refine nW ?_; first | (refine op_call_id ?_; refine op_ro rfl rfl (by first | exact c_userOk _ | exact c_servOk _ | exact c_numOk _) ?_)) | refine nY ?_ | refine WA_alt ?_ ?_ | refine nR ?_ | refine WC_drawL (id := 1) (ops := o160x1L5) r160x1L5 (by kernel_rfl) rfl ?_ | refine WO_split rfl rfl (fun hg => ?_) (fun hg => ?_) | refine WR_split rfl rfl rfl (fun hg => ?_) (fun hg => ?_) | refine WC_cond rfl (fun hc => ?_) (fun hc => ?_)))
  all_goals (refine ro_ret (by exact kR) (by exact kL) ?_; simp_all [packR, shaped] <;> (try omega))
theorem c_msgOk1 {L : List Ent} (s : Seal) : RO Tryz.prog 162 [sealV s] L (B (!sealOk s)) := by
  refine Tri.of Tryz.func162 rfl rfl Tryz.ntmps162 rfl rfl ?_
  (repeat' (first | refine nX ?_ | (refine nA ?_; intro _) | (refine nW ?_; first | (refine op_call_id ?_; refine op_ro rfl rfl (by exact c_sealOk _) ?_)) | refine nY ?_ | refine nR ?_))
  refine ro_ret (by exact kR) (by exact kL) ?_; rfl
theorem c_msgOk {L : List Ent} (m : Msg) (s : Sl) (h : MsgAt L m s) : RO Tryz.prog 90 [msgV m s] L (B (msgOk m)) := by
  refine Tri.of Tryz.func90 rfl rfl Tryz.ntmps90 rfl rfl ?_
  (repeat' (first | refine nX ?_ | (refine nA ?_; intro _) | (refine nW ?_; first | (refine op_call_id ?_; refine op_ro rfl rfl (by first | exact c_shaped m s (h.mono (by exact kS)) | exact c_containsFuncimpl.Seal s m.seals _ [] (fun x => !sealOk x) (h.mono (by exact kS)) (fun x _ => c_msgOk1 x)) ?_)) | refine nY ?_ | refine nR ?_ | refine WO_split rfl rfl (fun hg => ?_) (fun hg => ?_) | refine WR_split rfl rfl rfl (fun hg => ?_) (fun hg => ?_)))
  all_goals (refine ro_ret (by exact kR) (by exact kL) ?_; simp_all [packR, msgOk, List.all_eq_not_any_not])
theorem c_l2Seals {L : List Ent} (m : Msg) (s : Sl) (many : Int) (h : MsgAt L m s) : RO Tryz.prog 134 [msgV m s, I many] L (B (m.seals.all sealOk && ((m.seals.length : Int) == many))) := by
  obtain ⟨a, n, c⟩ := s
  obtain ⟨rfl, hc, hb, hat⟩ := h
  simp only [big] at hb
  refine Tri.of Tryz.func134 rfl rfl Tryz.ntmps134 rfl rfl ?_
  (repeat' (first | refine nX ?_ | (refine nA ?_; intro _) | refine nY ?_ | refine nR ?_))
  rename_i bx
  refine WC_loop (fun mz Ez Mz => ∃ k : Nat, k + mz = (m.seals).length ∧ Ez = [(1, I many), (2, .pointer (some ⟨bx, 0, none⟩)), (5, I k)] ∧ Mz = (bx, cellsO (msgC m ⟨a, m.seals.length, c⟩) 47) :: L ∧ (∀ y ∈ m.seals.take k, sealOk y = true)) (m.seals).length (by exact kQ) (by exact kL) ⟨0, by omega, rfl, rfl, by simp⟩ ?_
  rintro mz Ez Mz ⟨k, hk, rfl, rfl, hin⟩
  rcases Nat.lt_or_ge k (m.seals).length with hlt | hge
  · obtain ⟨y, hy⟩ : ∃ y, (m.seals)[k]? = some y := ⟨(m.seals)[k], by simp [hlt]⟩; obtain ⟨b', o, cs, T, fr, rfl, hm, hrow⟩ := hat (by omega); have hrow' := hrow k y hy; have htk := take_next hy
    (repeat' (first | refine nX ?_ | (refine nA ?_; intro _) | (refine nW ?_; first | (refine op_call_id ?_; refine op_ro rfl rfl (by exact c_sSealOk y) ?_)) | refine nY ?_ | refine nR ?_ | refine WC_condT rfl (by exact kD) ?_ | refine WC_condF rfl (by exact kD) ?_ | refine WC_cond rfl (fun hc => ?_) (fun hc => ?_)))
    · have hf : m.seals.all sealOk = false := List.all_eq_false.2 ⟨y, List.mem_of_getElem? hy, by simp_all⟩
      refine ro_ret (by exact kR) (by exact kL) ?_; simp only [packR]; rw [hf]; rfl
    · exact loopQ_next ⟨mz - 1, _, _, by omega, by exact kQ, by exact kL, k + 1, by omega, rfl, rfl, by rw [htk]; exact all_next hin (by simp_all)⟩
  · (repeat' (first | refine nX ?_ | (refine nA ?_; intro _) | refine nY ?_ | refine nR ?_ | refine WC_condT rfl (by exact kD) ?_ | refine WC_condF rfl (by exact kD) ?_ | refine WC_cond rfl (fun hc => ?_) (fun hc => ?_)))
    rw [take_all hge] at hin
    have hf : m.seals.all sealOk = true := List.all_eq_true.2 hin
    refine ro_ret (by exact kR) (by exact kL) ?_; simp only [packR]; rw [hf]; rfl
theorem c_sMsgOk {L : List Ent} (m : Msg) (s : Sl) (h : MsgAt L m s) : RO Tryz.prog 68 [msgV m s] L (B (msgOk m)) := by
  refine Tri.of Tryz.func68 rfl rfl Tryz.ntmps68 rfl rfl ?_
  (repeat' (first | refine nX ?_ | (refine nA ?_; intro _) | (refine nW ?_; first | (refine op_call_id ?_; refine op_ro rfl rfl (by first | exact c_l1User _ | exact c_l1Serv _ | exact c_l1Num _ | exact c_l2Seals m s _ (h.mono (by exact kS))) ?_)) | refine nY ?_ | refine nR ?_ | refine WO_split rfl rfl (fun hg => ?_) (fun hg => ?_) | refine WR_split rfl rfl rfl (fun hg => ?_) (fun hg => ?_) | refine WC_cond rfl (fun hc => ?_) (fun hc => ?_)))
  all_goals (refine ro_ret (by exact kR) (by exact kL) ?_; simp_all [packR, msgOk, shaped, Bool.and_comm] <;> (try omega))
end Go.Proofs.YtoledfhjmdpihaaGreat
/- Caches and services: whether they are in order. -/
set_option linter.unusedVariables false
set_option linter.unusedSectionVars false
set_option linter.unusedSimpArgs false
namespace Go.Proofs.YtoledfhjmdpihaaGreat
open Go Go.Proofs Go.Proofs.YtoledfhjmdpihaaGreat.VE
attribute [local irreducible] Val Op1 WO WR WA WC seqQ blockQ loopQ retQ
noncomputable def o149x4L6 : Array Oper := cops (cl (cr (cl (cl (cr (cr (cl (cl (cr (cl (cr (codeOf Tryz.f149))))))))))))
noncomputable def r149x4L6 : Run := (.st 0 1 (.st 1 3 (.st 2 0 (.st 3 0 (.st 4 0 (.st 5 0 (.st 6 0 (.st 7 1 (.st 8 3 (.st 9 0 .done))))))))))
set_option maxHeartbeats 2000000
theorem cacheOk_stop {xs : List Seal} {k : Nat} {y : Seal} (hy : xs[k]? = some y) (h : authOk y = false ∨ y ∈ xs.take k) : cacheOk xs = false := by
  have hlt := (List.getElem?_eq_some_iff.1 hy).1
  rcases h with h | h
  · have : xs.all authOk = false := List.all_eq_false.2 ⟨y, List.mem_of_getElem? hy, by simp [h]⟩
    simp [cacheOk, this]
  · have : ¬ xs.Nodup := fun hn => by
      have hsplit : xs = xs.take k ++ y :: xs.drop (k + 1) := by
        have := (List.getElem?_eq_some_iff.1 hy).2
        rw [← this, List.getElem_cons_drop, List.take_append_drop]
      rw [hsplit, List.nodup_append] at hn
      exact hn.2.2 y h y List.mem_cons_self rfl
    simp [cacheOk, this]
theorem cacheOk_step {xs : List Seal} {k : Nat} {y : Seal} (hy : xs[k]? = some y) (h1 : authOk y = true) (h2 : y ∉ xs.take k) (hin : (∀ z ∈ xs.take k, authOk z = true) ∧ (xs.take k).Nodup) : (∀ z ∈ xs.take (k + 1), authOk z = true) ∧ (xs.take (k + 1)).Nodup := by
  rw [take_next hy]
  refine ⟨all_next hin.1 h1, ?_⟩
  rw [List.nodup_append]
  refine ⟨hin.2, by simp, ?_⟩
  intro a ha b hb e
  rw [List.mem_singleton.1 hb] at e
  exact h2 (e ▸ ha)
theorem c_cacheOk {L : List Ent} (s : Sl) (xs : List Seal) (h : SliceAt L encSeal s xs) : RO Tryz.prog 149 [s.v] L (B (cacheOk xs)) := by
  obtain ⟨a, n, c⟩ := s
  have h0 := h
  obtain ⟨rfl, hc, hb, hat⟩ := h
  simp only [big] at hb
  dsimp only at hc
  refine Tri.of Tryz.func149 rfl rfl Tryz.ntmps149 rfl rfl ?_
  (repeat' (first | refine nX ?_ | (refine nA ?_; intro _) | refine nY ?_ | refine WA_alt ?_ ?_ | refine nR ?_ | refine WC_drawL (id := 4) (ops := o149x4L6) r149x4L6 (by kernel_rfl) rfl ?_))
  refine WC_loop (fun mz Ez Mz => ∃ k : Nat, k + mz = (xs).length ∧ Ez = [(0, .slice a xs.length c), (5, .slice a xs.length c), (6, I xs.length), (7, I k)] ∧ Mz = L ∧ ((∀ y ∈ xs.take k, authOk y = true) ∧ (xs.take k).Nodup)) (xs).length (by exact kQ) (by exact kL) ⟨0, by omega, rfl, rfl, by simp⟩ ?_
  rintro mz Ez Mz ⟨k, hk, rfl, rfl, hin⟩
  rcases Nat.lt_or_ge k (xs).length with hlt | hge
  · have h1 := h0.take (k := k) (by omega)
    obtain ⟨y, hy⟩ : ∃ y, (xs)[k]? = some y := ⟨(xs)[k], by simp [hlt]⟩; obtain ⟨b', o, cs, T, fr, rfl, hm, hrow⟩ := hat (by omega); have hrow' := hrow k y hy; have htk := take_next hy
    (repeat' (first | refine nX ?_ | (refine nA ?_; intro _) | (refine nW ?_; first | (refine op_call_id ?_; refine op_ro rfl rfl (by first | exact c_authOk y | exact c_containsimpl.Seal ⟨_, _, _⟩ (xs.take k) y (h1.mono (by exact kS))) ?_)) | refine nY ?_ | refine WA_alt ?_ ?_ | refine nR ?_ | refine WC_drawL (id := 4) (ops := o149x4L6) r149x4L6 (by kernel_rfl) rfl ?_ | refine WO_split rfl rfl (fun hg => ?_) (fun hg => ?_) | refine WR_split rfl rfl rfl (fun hg => ?_) (fun hg => ?_) | refine WC_condT rfl (by exact kD) ?_ | refine WC_condF rfl (by exact kD) ?_ | refine WC_cond rfl (fun hc => ?_) (fun hc => ?_)))
    · rw [cacheOk_stop hy (.inl (by simp_all))]
      refine ro_ret (by exact kR) (by exact kL) ?_; rfl
    · rw [cacheOk_stop hy (.inr (by simp_all))]
      refine ro_ret (by exact kR) (by exact kL) ?_; rfl
    · exact loopQ_next ⟨mz - 1, _, _, by omega, by exact kQ, by exact kL, k + 1, by omega, rfl, rfl, by exact cacheOk_step hy (by simp_all) (by simp_all) hin⟩
  · (repeat' (first | refine nX ?_ | (refine nA ?_; intro _) | refine nY ?_ | refine WA_alt ?_ ?_ | refine nR ?_ | refine WC_drawL (id := 4) (ops := o149x4L6) r149x4L6 (by kernel_rfl) rfl ?_ | refine WC_condT rfl (by exact kD) ?_ | refine WC_condF rfl (by exact kD) ?_ | refine WC_cond rfl (fun hc => ?_) (fun hc => ?_)))
    rw [take_all hge] at hin
    refine ro_ret (by exact kR) (by exact kL) ?_; simp only [packR]; have hf : xs.all authOk = true := List.all_eq_true.2 hin.1; simp [cacheOk, hf, hin.2]; omega
theorem c_servOk1 {L : List Ent} (x : Call) : RO Tryz.prog 157 [callV x] L (B (!tookOk x)) := by
  refine Tri.of Tryz.func157 rfl rfl Tryz.ntmps157 rfl rfl ?_
  (repeat' (first | refine nX ?_ | (refine nA ?_; intro _) | (refine nW ?_; first | (refine op_call_id ?_; refine op_ro rfl rfl (by first | exact c_userOk _ | exact c_madeOk _ | exact c_timeOk _ | exact c_numOk _) ?_)) | refine nY ?_ | refine nR ?_ | refine WO_split rfl rfl (fun hg => ?_) (fun hg => ?_) | refine WR_split rfl rfl rfl (fun hg => ?_) (fun hg => ?_)))
  all_goals (refine ro_ret (by exact kR) (by exact kL) ?_; simp_all [packR, tookOk])
abbrev servC (s : Serv) (c t : Sl) : List Value := [I s.id, I s.since, c.v, t.v]
abbrev servV (s : Serv) (c t : Sl) : Value := .agg (servC s c t).toArray
theorem c_servOk' {L : List Ent} (s : Serv) (c t : Sl) (h1 : SliceAt L encSeal c s.cache) (h2 : SliceAt L encCall t s.took) : RO Tryz.prog 87 [servV s c t] L (B (servOk' s)) := by
  refine Tri.of Tryz.func87 rfl rfl Tryz.ntmps87 rfl rfl ?_
  (repeat' (first | refine nX ?_ | (refine nA ?_; intro _) | (refine nW ?_; first | (refine op_call_id ?_; refine op_ro rfl rfl (by first | exact c_servOk _ | exact c_within _ _ _ | exact c_cacheOk c s.cache (h1.mono (by exact kS)) | exact c_containsFuncimpl.Call t s.took _ [] (fun x => !tookOk x) (h2.mono (by exact kS)) (fun x _ => c_servOk1 x)) ?_)) | refine nY ?_ | refine nR ?_ | refine WO_split rfl rfl (fun hg => ?_) (fun hg => ?_) | refine WR_split rfl rfl rfl (fun hg => ?_) (fun hg => ?_)))
  all_goals (refine ro_ret (by exact kR) (by exact kL) ?_; simp_all [packR, servOk', List.all_eq_not_any_not])
theorem c_impl.KdcOk {L : List Ent} (k : Kdc) (c : Sl) (h1 : SliceAt L encSeal c k.cache) : RO Tryz.prog 84 [.agg [I k.next, c.v].toArray] L (B (kdcOk k)) := by
  refine Tri.of Tryz.func84 rfl rfl Tryz.ntmps84 rfl rfl ?_
  (repeat' (first | refine nX ?_ | (refine nA ?_; intro _) | (refine nW ?_; first | (refine op_call_id ?_; refine op_ro rfl rfl (by first | exact c_within _ _ _ | exact c_cacheOk c k.cache (h1.mono (by exact kS))) ?_)) | refine nY ?_ | refine nR ?_ | refine WO_split rfl rfl (fun hg => ?_) (fun hg => ?_) | refine WR_split rfl rfl rfl (fun hg => ?_) (fun hg => ?_)))
  all_goals (refine ro_ret (by exact kR) (by exact kL) ?_; simp_all [packR, kdcOk])
end Go.Proofs.YtoledfhjmdpihaaGreat
