/- What the library's readers lean on: tables and error values; the contract of ParseInt at base 10 and 64 bits. -/
import Derived.Test.YtgnpbgknmapejaaDoorTxt
import Derived.Test.YtgnpbgknmapejaaDoorNumL
import Derived.Lib.SlicesS
import Derived.Lib.ParseIntBTie
import Derived.Lib.AtoiErrMem
namespace Go.Proofs.YtgnpbgknmapejaaDoor
open Go.RowKit
set_option linter.unusedVariables false

def Env (w : World) : Prop := Tab w ∧ (∃ tp p, w.var? Tryd.prog "strconv.ErrSyntax" = some #[.iface tp p]) ∧ (∃ tp p, w.var? Tryd.prog "strconv.ErrRange" = some #[.iface tp p]) ∧ ∃ m : Int, w.cell? ⟨0, 0, none⟩ = some (.int .i64 m)
theorem Env.below {w w' : World} (h : Env w) (hb : Below w.heap.size w w') : Env w' := by
  obtain ⟨h1, ⟨t2, p2, h2⟩, ⟨t3, p3, h3⟩, m, h4⟩ := h
  refine ⟨h1.below hb, ⟨t2, p2, Go.Joins.var_stays (g := 1) (by kernel_rfl) h2 hb (Nat.le_refl _)⟩, ⟨t3, p3, Go.Joins.var_stays (g := 2) (by kernel_rfl) h3 hb (Nat.le_refl _)⟩, m, ?_⟩
  exact (hb.cell (p := ⟨0, 0, none⟩) (World.block_lt_of_cell? w ⟨0, 0, none⟩ h4)).trans h4
theorem Env.tab {w : World} (h : Env w) : Tab w := h.1
theorem sat_bd (l : List UInt8) : -9223372036854775808 ≤ Lib.intSat 64 l ∧ Lib.intSat 64 l ≤ 9223372036854775807 := by
  have p63 : (2 : Nat) ^ (64 - 1) = 9223372036854775808 := by decide
  unfold Lib.intSat
  rw [p63]
  split <;> omega
/-- what ParseInt hands back -/
def Par (s : ByteArray) (w : World) (e : Ending) (w' : World) : Prop := ∃ (v : Int) (err : Value), e = .returned (.tuple #[.int .i64 v, err]) ∧
  ((Lib.parseIntB 64 s.data.toList = .ok v ∧ err = .nilIface) ∨ ((∀ u, Lib.parseIntB 64 s.data.toList ≠ .ok u) ∧ ∃ T P, err = .iface T P)) ∧ (-9223372036854775808 ≤ v ∧ v ≤ 9223372036854775807) ∧ Below w.heap.size w w'
theorem parI (s : ByteArray) (w : World) (hs : s.size ≤ 281474976710656) (E : Env w) : Calls Tryd.prog 70 #[.string s, .int .i64 10, .int .i64 64] w (Par s w) := by
  obtain ⟨_, ⟨t2, p2, h2⟩, ⟨t3, p3, h3⟩, _⟩ := E
  cases h : Lib.parseIntB 64 s.data.toList with
  | ok v =>
    refine (Tryd.strconv_ParseInt_10_at64_ok s (by omega) v h w).mono ?_
    rintro e w' ⟨rfl, hw⟩
    have bd := Lib.parseIntB_bounds h
    have p63 : (2 : Nat) ^ (64 - 1) = 9223372036854775808 := by decide
    rw [p63] at bd
    refine ⟨v, _, rfl, .inl ⟨h, rfl⟩, by omega, ?_⟩
    rcases hw with rfl | ⟨t, rfl⟩
    · exact Below.refl _ _
    · exact Lib.bytesWorld_below _ _ _
  | «syntax» =>
    refine (Tryd.strconv_ParseInt_10_at64_syntax_var s hs h t2 p2 w h2).mono ?_
    rintro e w' ⟨N, rfl, _, _, hb⟩
    exact ⟨_, _, rfl, .inr ⟨fun u hu => (by first | cases hu | (rw [h] at hu; cases hu)), _, _, rfl⟩, by omega, hb⟩
  | range =>
    refine (Tryd.strconv_ParseInt_10_at64_range_var s hs h t3 p3 w h3).mono ?_
    rintro e w' ⟨N, rfl, _, _, hb⟩
    exact ⟨_, _, rfl, .inr ⟨fun u hu => (by first | cases hu | (rw [h] at hu; cases hu)), _, _, rfl⟩, sat_bd _, hb⟩
end Go.Proofs.YtgnpbgknmapejaaDoor
