/-
  What word.mask comes to.
-/
import Derived.Test.YteggfenbifpkkaaHfind
import Derived.Laws.RangeString
import Derived.Laws.RangeAny
namespace Go.Proofs.Yteggfenbifpkkaa.Hmask
open Go.RowKit Go.Proofs.YteggfenbifpkkaaW.PrintWords Go.Proofs.YteggfenbifpkkaaW.PrintMore

def mbit (m a : Int) : Int := Go.bits .or .u16 m (shl .u16 1 a)
theorem mbit_eq (m a : Int) : Go.bits .or .u16 m (IntKind.u16.wrap (2 ^ min a.toNat 16)) = mbit m a := by simp [mbit, shl, IntKind.bits]
def mstep (a b c : Int) (m : Int) (x : UInt8) : Int := if x.toNat = 97 then mbit m a else if x.toNat = 98 then mbit m b else if x.toNat = 99 then mbit m c else m
def mfold (a b c : Int) (l : List UInt8) : Int := l.foldl (mstep a b c) 0
theorem mfold_snoc (a b c : Int) (s : ByteArray) (p : Nat) (h : p < s.size) : mfold a b c (s.data.toList.take (p + 1)) = mstep a b c (mfold a b c (s.data.toList.take p)) (s[p]'h) := by
  unfold mfold
  rw [List.take_succ_eq_append_getElem (by simpa using h), List.foldl_append]
  rfl
set_option maxHeartbeats 1000000 in
set_option maxRecDepth 100000 in
theorem mask_all (o a b c m : Int) (w : World) :
    Calls Try.prog 37 #[.agg #[.int .i64 o, .int .i64 a, .int .i64 b, .int .i64 c, .int .i64 m], .string ⟨#[97, 108, 108]⟩] w fun e w' => e = .returned (.int .u16 65535) ∧ Below w.heap.size w w' := by
  have hu := Try.underlying28
  go_enter Try.func37, Try.ntmps37
  go_wp2
  go_ret
  exact ⟨rfl, (Below.refl w.heap.size w).alloc (Nat.le_refl _) _⟩

set_option maxHeartbeats 1000000 in
set_option maxRecDepth 100000 in
theorem mask_some (o a b c m : Int) (s : ByteArray) (hs : (s.toList == [97, 108, 108]) = false) (ha : 0 ≤ a) (hb : 0 ≤ b) (hc : 0 ≤ c) (h8 : ∀ (i : Nat) (h : i < s.size), (s[i]'h).toNat < 128) (w : World) :
    Calls Try.prog 37 #[.agg #[.int .i64 o, .int .i64 a, .int .i64 b, .int .i64 c, .int .i64 m], .string s] w fun e w' => e = .returned (.int .u16 (mfold a b c s.data.toList)) ∧ Below w.heap.size w w' := by
  have hu := Try.underlying28
  have H8 := Lib.hid h8
  clear h8
  go_enter Try.func37, Try.ntmps37
  go_wp2
  generalize hwb : w.alloc (.cells #[.int .i64 o, .int .i64 a, .int .i64 b, .int .i64 c, .int .i64 m] 28) = wb
  have hsz : wb.heap.size = w.heap.size + 1 := by rw [← hwb, World.size_alloc]
  have c1 : ∀ p, (wb.iter s p).cell? ⟨w.heap.size, 1, none⟩ = some (.int .i64 a) := by intro p; subst hwb; simp [World.iter]
  have c2 : ∀ p, (wb.iter s p).cell? ⟨w.heap.size, 2, none⟩ = some (.int .i64 b) := by intro p; subst hwb; simp [World.iter]
  have c3 : ∀ p, (wb.iter s p).cell? ⟨w.heap.size, 3, none⟩ = some (.int .i64 c) := by intro p; subst hwb; simp [World.iter]
  have hB : ∀ p, Below w.heap.size w (wb.iter s p) := fun p => by subst hwb; exact (((Below.refl w.heap.size w).alloc (Nat.le_refl _) _).alloc (by rw [World.size_alloc]; omega) _)
  have HB := Lib.hid hB
  have HW := Lib.hid hwb
  have HS := Lib.hid hsz
  clear hB hwb hsz
  go_loopw [5] (fun m wr => ∃ pos : Nat, pos ≤ s.size ∧ wr = wb.iter s pos ∧ m = .int .u16 (mfold a b c (s.data.toList.take pos))) (fun _ wr => s.size - wr.iterPos wb.heap.size)
  case atStart => exact ⟨0, by omega, by rw [← HW.out], rfl⟩
  case round =>
    obtain ⟨pos, hpos, rfl, rfl⟩ := hrel
    by_cases hp : pos < s.size
    · have h8 := H8.out pos hp
      have hnx : ∀ ty, (Instr.next (.pointer (some ⟨w.heap.size + 1, 0, none⟩)) true ty).run Try.prog (wb.iter s pos) = .ok (.tuple #[.bool true, .int .i64 pos, .int .i32 (s[pos]'hp).toNat]) (wb.iter s (pos + 1)) := fun ty => by rw [← HS.out]; exact run_next_ascii wb s pos ty hp h8
      have hf := Lib.hid (mfold_snoc a b c s pos hp)
      generalize s[pos] = x at *
      have close : ∀ v : Int, v = mstep a b c (mfold a b c (s.data.toList.take pos)) x → (∃ pos_1 : Nat, pos_1 ≤ s.size ∧ wb.iter s (pos + 1) = wb.iter s pos_1 ∧ Value.int .u16 v = Value.int .u16 (mfold a b c (s.data.toList.take pos_1))) ∧ s.size - (wb.iter s (pos + 1)).iterPos wb.heap.size < s.size - (wb.iter s pos).iterPos wb.heap.size := fun v hv =>
        ⟨⟨pos + 1, by omega, rfl, by rw [hf.out, hv]⟩, by simp; omega⟩
      have CL := Lib.hid close
      clear close
      by_cases e1 : x.toNat = 97
      · have E1 := Lib.hid e1
        have f1 : (((x.toNat : Nat) : Int) == 97) = true := beq_iff_eq.2 (by omega)
        clear e1
        go_wp2
        exact CL.out _ (by rw [mbit_eq, mstep, if_pos E1.out])
      · have f1 : (((x.toNat : Nat) : Int) == 97) = false := beq_eq_false_iff_ne.2 (by omega)
        by_cases e2 : x.toNat = 98
        · have E1 := Lib.hid e1
          have E2 := Lib.hid e2
          have f2 : (((x.toNat : Nat) : Int) == 98) = true := beq_iff_eq.2 (by omega)
          clear e1 e2
          go_wp2
          exact CL.out _ (by rw [mbit_eq, mstep, if_neg E1.out, if_pos E2.out])
        · have f2 : (((x.toNat : Nat) : Int) == 98) = false := beq_eq_false_iff_ne.2 (by omega)
          by_cases e3 : x.toNat = 99
          · have E1 := Lib.hid e1
            have E2 := Lib.hid e2
            have E3 := Lib.hid e3
            have f3 : (((x.toNat : Nat) : Int) == 99) = true := beq_iff_eq.2 (by omega)
            clear e1 e2 e3
            go_wp2
            exact CL.out _ (by rw [mbit_eq, mstep, if_neg E1.out, if_neg E2.out, if_pos E3.out])
          · have f3 : (((x.toNat : Nat) : Int) == 99) = false := beq_eq_false_iff_ne.2 (by omega)
            have E1 := Lib.hid e1
            have E2 := Lib.hid e2
            have E3 := Lib.hid e3
            clear e1 e2 e3
            go_wp2
            exact CL.out _ (by rw [mstep, if_neg E1.out, if_neg E2.out, if_neg E3.out])
    · have hnx : ∀ ty, (Instr.next (.pointer (some ⟨w.heap.size + 1, 0, none⟩)) true ty).run Try.prog (wb.iter s pos) = .ok (.tuple #[.bool false]) (wb.iter s pos) := fun ty => by rw [← HS.out]; exact run_next_end wb s pos ty hp
      go_wp2
      go_ret
      obtain rfl : pos = s.size := by omega
      refine ⟨by rw [List.take_of_length_le (by simp)]; rfl, HB.out _⟩
end Go.Proofs.Yteggfenbifpkkaa.Hmask
