import Derived.Test.YtdbpglhdicmhhaaGreatDoorMPr16
import Derived.Test.YtdbpglhdicmhhaaGreatDoorMPr17
import Derived.Test.YtdbpglhdicmhhaaGreatDoorMPr2
import Derived.Outline
set_option maxHeartbeats 4000000
set_option maxRecDepth 100000
set_option linter.unusedVariables false
set_option linter.unusedSimpArgs false
section
namespace Go.Proofs.YtdbpglhdicmhhaaGreatDoor.Qs
open Go.RowKit Go.Proofs.YtdbpglhdicmhhaaGreatDoorW.aI Go.Proofs.YtdbpglhdicmhhaaGreatDoor.GA
open dH (sG)
def ji (n : Int) (h : Bool) : Bool:=n == 0 || (h && (decide (0 < n) && decide (n < 16)))
theorem fP (n : Int) (h : Bool) (w : World) : Calls Tryz.prog 84 #[.int .i64 n,.bool h] w fun e w' => e = .returned (.bool (ji n h)) ∧ aV w w' :=
 iR.calls n h _ w (Q.XI n h)
theorem Below.drewN' {B : Nat} {a w : World} (h : Below B a w) (n : Nat) : Below B a (w.drewN n):=⟨h.os,h.tape,h.output,h.size,h.block⟩
theorem YR (w0 : Int) (h0 : 0 ≤ w0) (h1 : w0 < 4294967296) (n1 : ByteArray) (s1 c1 : Int) (r1 r2 : ByteArray) (ht : aT.f (w0 / 16777216) = some (n1,s1,c1,r1,r2,false)) (w : World) :
  Calls Tryz.prog 40 #[.int .u32 w0] w fun e w' => e = .returned (.tuple #[.agg #[.int .i64 0,.int .i64 0,.int .i64 0,.int .i64 0,.int .i64 0],.int .i64 60]) ∧ Below w.heap.size w w':=by
 have hu:=Tryz.underlying70
 have uh:=Tryz.underlying133
 have HT:=Lib.hid ht
 clear ht
 go_enter Tryz.func40,Tryz.ntmps40
 go_wp2_with (first | (go_at_call 83; refine (aT.calls _ _ _ _ _ _ _ _ HT.out).mono ?_; rintro e w' ⟨rfl,hb⟩; obtain ⟨hc,hf⟩:=sG hb; have hz : w.heap.size + 1 < w'.heap.size:=(by have:=hb.size; simp at this; omega); have hz0 : w.heap.size < w'.heap.size:=(by omega)))
 refine bodyPost_ret (dw rfl _ _ w.heap.size 70 #[.int .i64 0,.int .i64 0,.int .i64 0,.int .i64 0,.int .i64 0] (0,0) _ rfl ?hbl hu rfl (by kernel_rfl)) rfl ⟨rfl,?_⟩
 case hbl =>
  repeat (first | (with_reducible refine aG ?_ _) | (with_reducible refine aC ?_ _))
  with_reducible refine bg (cs:=#[.int .i64 0,.int .i64 0,.int .i64 0,.int .i64 0,.int .i64 0]) ?_ 4 _ rfl
  with_reducible refine bg (cs:=#[.int .i64 0,.int .i64 0,.int .i64 0,.int .i64 0,.int .i64 0]) ?_ 3 _ rfl
  with_reducible refine bg (cs:=#[.int .i64 0,.int .i64 0,.int .i64 0,.int .i64 0,.int .i64 0]) ?_ 2 _ rfl
  with_reducible refine bg (cs:=#[.int .i64 0,.int .i64 0,.int .i64 0,.int .i64 0,.int .i64 0]) ?_ 1 _ rfl
  with_reducible refine bg (cs:=#[.int .i64 0,.int .i64 0,.int .i64 0,.int .i64 0,.int .i64 0]) ?_ 0 _ rfl
  repeat (first | (with_reducible refine aG ?_ _) | (with_reducible refine aC ?_ _) | (with_reducible refine dU ?_ (by simp) _))
  exact bU (aC (iU _ _) _) hb
 repeat (first | (with_reducible refine Below.drewN' ?_ _) | (with_reducible refine Below.setCell ?_ (by simp) _) | (with_reducible refine Below.alloc ?_ (by first | omega | (simp; omega)) _))
 exact (((Below.refl w.heap.size w).alloc (Nat.le_refl _) _).alloc (by simp) _).trans (hb.mono (by simp; omega))
theorem abM (w0 : Int) (h0 : 0 ≤ w0) (h1 : w0 < 4294967296) (n1 : ByteArray) (s1 c1 : Int) (r1 r2 : ByteArray) (ht : aT.f (w0 / 16777216) = some (n1,s1,c1,r1,r2,true)) (A B C : Bool) (lo hi : Int) (hh : bK.f s1 = some (A,B,C,lo,hi)) (hC : C = true) (f0 : ji (w0 / 1048576 % 16) A = false) (w : World) :
  Calls Tryz.prog 40 #[.int .u32 w0] w fun e w' => e = .returned (.tuple #[.agg #[.int .i64 0,.int .i64 0,.int .i64 0,.int .i64 0,.int .i64 0],.int .i64 61]) ∧ Below w.heap.size w w':=by
 have hu:=Tryz.underlying70
 have uh:=Tryz.underlying133
 have HT:=Lib.hid ht
 clear ht
 have HH:=Lib.hid hh
 clear hh
 subst hC
 go_enter Tryz.func40,Tryz.ntmps40
 go_wp2_with (first | (go_at_call 83; refine (aT.calls _ _ _ _ _ _ _ _ HT.out).mono ?_; rintro e w' ⟨rfl,hb⟩; obtain ⟨hc,hf⟩:=sG hb; have hz : w.heap.size + 1 < w'.heap.size:=(by have:=hb.size; simp at this; omega); have hz0 : w.heap.size < w'.heap.size:=(by omega)) | (go_at_call 43; refine (bK.calls _ _ _ _ _ _ _ HH.out).mono ?_; rintro e w2 ⟨rfl,⟨nd,rfl⟩⟩) | (go_at_call 84; refine (fP _ _ _).mono ?_; rintro e w3 ⟨rfl,⟨Ql,rfl⟩⟩))
 refine bodyPost_ret (dw rfl _ _ w.heap.size 70 #[.int .i64 0,.int .i64 0,.int .i64 0,.int .i64 0,.int .i64 0] (0,0) _ rfl ?hbl hu rfl (by kernel_rfl)) rfl ⟨rfl,?_⟩
 case hbl =>
  repeat (first | (with_reducible refine aG ?_ _) | (with_reducible refine aC ?_ _))
  with_reducible refine bg (cs:=#[.int .i64 0,.int .i64 0,.int .i64 0,.int .i64 0,.int .i64 0]) ?_ 4 _ rfl
  with_reducible refine bg (cs:=#[.int .i64 0,.int .i64 0,.int .i64 0,.int .i64 0,.int .i64 0]) ?_ 3 _ rfl
  with_reducible refine bg (cs:=#[.int .i64 0,.int .i64 0,.int .i64 0,.int .i64 0,.int .i64 0]) ?_ 2 _ rfl
  with_reducible refine bg (cs:=#[.int .i64 0,.int .i64 0,.int .i64 0,.int .i64 0,.int .i64 0]) ?_ 1 _ rfl
  with_reducible refine bg (cs:=#[.int .i64 0,.int .i64 0,.int .i64 0,.int .i64 0,.int .i64 0]) ?_ 0 _ rfl
  repeat (first | (with_reducible refine aG ?_ _) | (with_reducible refine aC ?_ _) | (with_reducible refine dU ?_ (by simp) _))
  exact bU (aC (iU _ _) _) hb
 repeat (first | (with_reducible refine Below.drewN' ?_ _) | (with_reducible refine Below.setCell ?_ (by simp) _) | (with_reducible refine Below.alloc ?_ (by first | omega | (simp; omega)) _))
 exact (((Below.refl w.heap.size w).alloc (Nat.le_refl _) _).alloc (by simp) _).trans (hb.mono (by simp; omega))
theorem abN (w0 : Int) (h0 : 0 ≤ w0) (h1 : w0 < 4294967296) (n1 : ByteArray) (s1 c1 : Int) (r1 r2 : ByteArray) (ht : aT.f (w0 / 16777216) = some (n1,s1,c1,r1,r2,true)) (A B C : Bool) (lo hi : Int) (hh : bK.f s1 = some (A,B,C,lo,hi)) (hC : C = true) (f0 : ji (w0 / 1048576 % 16) A = true) (f1 : ji (w0 / 65536 % 16) B = false) (w : World) :
  Calls Tryz.prog 40 #[.int .u32 w0] w fun e w' => e = .returned (.tuple #[.agg #[.int .i64 0,.int .i64 0,.int .i64 0,.int .i64 0,.int .i64 0],.int .i64 61]) ∧ Below w.heap.size w w':=by
 have hu:=Tryz.underlying70
 have uh:=Tryz.underlying133
 have HT:=Lib.hid ht
 clear ht
 have HH:=Lib.hid hh
 clear hh
 subst hC
 go_enter Tryz.func40,Tryz.ntmps40
 go_wp2_with (first | (go_at_call 83; refine (aT.calls _ _ _ _ _ _ _ _ HT.out).mono ?_; rintro e w' ⟨rfl,hb⟩; obtain ⟨hc,hf⟩:=sG hb; have hz : w.heap.size + 1 < w'.heap.size:=(by have:=hb.size; simp at this; omega); have hz0 : w.heap.size < w'.heap.size:=(by omega)) | (go_at_call 43; refine (bK.calls _ _ _ _ _ _ _ HH.out).mono ?_; rintro e w2 ⟨rfl,⟨nd,rfl⟩⟩) | (go_at_call 84; refine (fP _ _ _).mono ?_; rintro e w3 ⟨rfl,⟨Ql,rfl⟩⟩))
 refine bodyPost_ret (dw rfl _ _ w.heap.size 70 #[.int .i64 0,.int .i64 0,.int .i64 0,.int .i64 0,.int .i64 0] (0,0) _ rfl ?hbl hu rfl (by kernel_rfl)) rfl ⟨rfl,?_⟩
 case hbl =>
  repeat (first | (with_reducible refine aG ?_ _) | (with_reducible refine aC ?_ _))
  with_reducible refine bg (cs:=#[.int .i64 0,.int .i64 0,.int .i64 0,.int .i64 0,.int .i64 0]) ?_ 4 _ rfl
  with_reducible refine bg (cs:=#[.int .i64 0,.int .i64 0,.int .i64 0,.int .i64 0,.int .i64 0]) ?_ 3 _ rfl
  with_reducible refine bg (cs:=#[.int .i64 0,.int .i64 0,.int .i64 0,.int .i64 0,.int .i64 0]) ?_ 2 _ rfl
  with_reducible refine bg (cs:=#[.int .i64 0,.int .i64 0,.int .i64 0,.int .i64 0,.int .i64 0]) ?_ 1 _ rfl
  with_reducible refine bg (cs:=#[.int .i64 0,.int .i64 0,.int .i64 0,.int .i64 0,.int .i64 0]) ?_ 0 _ rfl
  repeat (first | (with_reducible refine aG ?_ _) | (with_reducible refine aC ?_ _) | (with_reducible refine dU ?_ (by simp) _))
  exact bU (aC (iU _ _) _) hb
 repeat (first | (with_reducible refine Below.drewN' ?_ _) | (with_reducible refine Below.setCell ?_ (by simp) _) | (with_reducible refine Below.alloc ?_ (by first | omega | (simp; omega)) _))
 exact (((Below.refl w.heap.size w).alloc (Nat.le_refl _) _).alloc (by simp) _).trans (hb.mono (by simp; omega))
theorem abO (w0 : Int) (h0 : 0 ≤ w0) (h1 : w0 < 4294967296) (n1 : ByteArray) (s1 c1 : Int) (r1 r2 : ByteArray) (ht : aT.f (w0 / 16777216) = some (n1,s1,c1,r1,r2,true)) (A B C : Bool) (lo hi : Int) (hh : bK.f s1 = some (A,B,C,lo,hi)) (hC : C = true) (f0 : ji (w0 / 1048576 % 16) A = true) (f1 : ji (w0 / 65536 % 16) B = true) (f2 : ji (w0 % 65536) true = false) (w : World) :
  Calls Tryz.prog 40 #[.int .u32 w0] w fun e w' => e = .returned (.tuple #[.agg #[.int .i64 0,.int .i64 0,.int .i64 0,.int .i64 0,.int .i64 0],.int .i64 61]) ∧ Below w.heap.size w w':=by
 have hu:=Tryz.underlying70
 have uh:=Tryz.underlying133
 have HT:=Lib.hid ht
 clear ht
 have HH:=Lib.hid hh
 clear hh
 subst hC
 go_enter Tryz.func40,Tryz.ntmps40
 go_wp2_with (first | (go_at_call 83; refine (aT.calls _ _ _ _ _ _ _ _ HT.out).mono ?_; rintro e w' ⟨rfl,hb⟩; obtain ⟨hc,hf⟩:=sG hb; have hz : w.heap.size + 1 < w'.heap.size:=(by have:=hb.size; simp at this; omega); have hz0 : w.heap.size < w'.heap.size:=(by omega)) | (go_at_call 43; refine (bK.calls _ _ _ _ _ _ _ HH.out).mono ?_; rintro e w2 ⟨rfl,⟨nd,rfl⟩⟩) | (go_at_call 84; refine (fP _ _ _).mono ?_; rintro e w3 ⟨rfl,⟨Ql,rfl⟩⟩))
 refine bodyPost_ret (dw rfl _ _ w.heap.size 70 #[.int .i64 0,.int .i64 0,.int .i64 0,.int .i64 0,.int .i64 0] (0,0) _ rfl ?hbl hu rfl (by kernel_rfl)) rfl ⟨rfl,?_⟩
 case hbl =>
  repeat (first | (with_reducible refine aG ?_ _) | (with_reducible refine aC ?_ _))
  with_reducible refine bg (cs:=#[.int .i64 0,.int .i64 0,.int .i64 0,.int .i64 0,.int .i64 0]) ?_ 4 _ rfl
  with_reducible refine bg (cs:=#[.int .i64 0,.int .i64 0,.int .i64 0,.int .i64 0,.int .i64 0]) ?_ 3 _ rfl
  with_reducible refine bg (cs:=#[.int .i64 0,.int .i64 0,.int .i64 0,.int .i64 0,.int .i64 0]) ?_ 2 _ rfl
  with_reducible refine bg (cs:=#[.int .i64 0,.int .i64 0,.int .i64 0,.int .i64 0,.int .i64 0]) ?_ 1 _ rfl
  with_reducible refine bg (cs:=#[.int .i64 0,.int .i64 0,.int .i64 0,.int .i64 0,.int .i64 0]) ?_ 0 _ rfl
  repeat (first | (with_reducible refine aG ?_ _) | (with_reducible refine aC ?_ _) | (with_reducible refine dU ?_ (by simp) _))
  exact bU (aC (iU _ _) _) hb
 repeat (first | (with_reducible refine Below.drewN' ?_ _) | (with_reducible refine Below.setCell ?_ (by simp) _) | (with_reducible refine Below.alloc ?_ (by first | omega | (simp; omega)) _))
 exact (((Below.refl w.heap.size w).alloc (Nat.le_refl _) _).alloc (by simp) _).trans (hb.mono (by simp; omega))
theorem abP (w0 : Int) (h0 : 0 ≤ w0) (h1 : w0 < 4294967296) (n1 : ByteArray) (s1 c1 : Int) (r1 r2 : ByteArray) (ht : aT.f (w0 / 16777216) = some (n1,s1,c1,r1,r2,true)) (A B C : Bool) (lo hi : Int) (hh : bK.f s1 = some (A,B,C,lo,hi)) (hC : C = true) (f0 : ji (w0 / 1048576 % 16) A = true) (f1 : ji (w0 / 65536 % 16) B = true) (f2 : ji (w0 % 65536) true = true) (w : World) :
  Calls Tryz.prog 40 #[.int .u32 w0] w fun e w' => e = .returned (.tuple #[.agg #[.int .i64 (w0 / 16777216),.int .i64 (w0 / 1048576 % 16),.int .i64 (w0 / 65536 % 16),.int .i64 (w0 % 65536),.int .i64 0],.int .i64 0]) ∧ Below w.heap.size w w':=by
 have hu:=Tryz.underlying70
 have uh:=Tryz.underlying133
 have HT:=Lib.hid ht
 clear ht
 have HH:=Lib.hid hh
 clear hh
 subst hC
 go_enter Tryz.func40,Tryz.ntmps40
 go_wp2_with (first | (go_at_call 83; refine (aT.calls _ _ _ _ _ _ _ _ HT.out).mono ?_; rintro e w' ⟨rfl,hb⟩; obtain ⟨hc,hf⟩:=sG hb; have hz : w.heap.size + 1 < w'.heap.size:=(by have:=hb.size; simp at this; omega); have hz0 : w.heap.size < w'.heap.size:=(by omega)) | (go_at_call 43; refine (bK.calls _ _ _ _ _ _ _ HH.out).mono ?_; rintro e w2 ⟨rfl,⟨nd,rfl⟩⟩) | (go_at_call 84; refine (fP _ _ _).mono ?_; rintro e w3 ⟨rfl,⟨Ql,rfl⟩⟩))
 refine bodyPost_ret (dw rfl _ _ w.heap.size 70 #[.int .i64 (w0 / 16777216),.int .i64 (w0 / 1048576 % 16),.int .i64 (w0 / 65536 % 16),.int .i64 (w0 % 65536),.int .i64 0] (0,0) _ rfl ?hbl hu rfl (by kernel_rfl)) rfl ⟨rfl,?_⟩
 case hbl =>
  repeat (first | (with_reducible refine aG ?_ _) | (with_reducible refine aC ?_ _))
  with_reducible refine bg (cs:=#[.int .i64 (w0 / 16777216),.int .i64 (w0 / 1048576 % 16),.int .i64 (w0 / 65536 % 16),.int .i64 (w0 % 65536),.int .i64 0]) ?_ 4 _ rfl
  with_reducible refine bg (cs:=#[.int .i64 (w0 / 16777216),.int .i64 (w0 / 1048576 % 16),.int .i64 (w0 / 65536 % 16),.int .i64 0,.int .i64 0]) ?_ 3 _ rfl
  with_reducible refine bg (cs:=#[.int .i64 (w0 / 16777216),.int .i64 (w0 / 1048576 % 16),.int .i64 0,.int .i64 0,.int .i64 0]) ?_ 2 _ rfl
  with_reducible refine bg (cs:=#[.int .i64 (w0 / 16777216),.int .i64 0,.int .i64 0,.int .i64 0,.int .i64 0]) ?_ 1 _ rfl
  with_reducible refine bg (cs:=#[.int .i64 0,.int .i64 0,.int .i64 0,.int .i64 0,.int .i64 0]) ?_ 0 _ rfl
  repeat (first | (with_reducible refine aG ?_ _) | (with_reducible refine aC ?_ _) | (with_reducible refine dU ?_ (by simp) _))
  exact bU (aC (iU _ _) _) hb
 repeat (first | (with_reducible refine Below.drewN' ?_ _) | (with_reducible refine Below.setCell ?_ (by simp) _) | (with_reducible refine Below.alloc ?_ (by first | omega | (simp; omega)) _))
 exact (((Below.refl w.heap.size w).alloc (Nat.le_refl _) _).alloc (by simp) _).trans (hb.mono (by simp; omega))
theorem abQ (w0 : Int) (h0 : 0 ≤ w0) (h1 : w0 < 4294967296) (n1 : ByteArray) (s1 c1 : Int) (r1 r2 : ByteArray) (ht : aT.f (w0 / 16777216) = some (n1,s1,c1,r1,r2,true)) (A B C : Bool) (lo hi : Int) (hh : bK.f s1 = some (A,B,C,lo,hi)) (hC : C = false) (hhi : 0 < hi) (hl : lo < 0) (hw : hi < w0 % 65536) (f0 : ji (w0 / 1048576 % 16) A = false) (w : World) :
  Calls Tryz.prog 40 #[.int .u32 w0] w fun e w' => e = .returned (.tuple #[.agg #[.int .i64 0,.int .i64 0,.int .i64 0,.int .i64 0,.int .i64 0],.int .i64 61]) ∧ Below w.heap.size w w':=by
 have hu:=Tryz.underlying70
 have uh:=Tryz.underlying133
 have HT:=Lib.hid ht
 clear ht
 have HH:=Lib.hid hh
 clear hh
 subst hC
 go_enter Tryz.func40,Tryz.ntmps40
 go_wp2_with (first | (go_at_call 83; refine (aT.calls _ _ _ _ _ _ _ _ HT.out).mono ?_; rintro e w' ⟨rfl,hb⟩; obtain ⟨hc,hf⟩:=sG hb; have hz : w.heap.size + 1 < w'.heap.size:=(by have:=hb.size; simp at this; omega); have hz0 : w.heap.size < w'.heap.size:=(by omega)) | (go_at_call 43; refine (bK.calls _ _ _ _ _ _ _ HH.out).mono ?_; rintro e w2 ⟨rfl,⟨nd,rfl⟩⟩) | (go_at_call 84; refine (fP _ _ _).mono ?_; rintro e w3 ⟨rfl,⟨Ql,rfl⟩⟩))
 refine bodyPost_ret (dw rfl _ _ w.heap.size 70 #[.int .i64 0,.int .i64 0,.int .i64 0,.int .i64 0,.int .i64 0] (0,0) _ rfl ?hbl hu rfl (by kernel_rfl)) rfl ⟨rfl,?_⟩
 case hbl =>
  repeat (first | (with_reducible refine aG ?_ _) | (with_reducible refine aC ?_ _))
  with_reducible refine bg (cs:=#[.int .i64 0,.int .i64 0,.int .i64 0,.int .i64 0,.int .i64 0]) ?_ 4 _ rfl
  with_reducible refine bg (cs:=#[.int .i64 0,.int .i64 0,.int .i64 0,.int .i64 0,.int .i64 0]) ?_ 3 _ rfl
  with_reducible refine bg (cs:=#[.int .i64 0,.int .i64 0,.int .i64 0,.int .i64 0,.int .i64 0]) ?_ 2 _ rfl
  with_reducible refine bg (cs:=#[.int .i64 0,.int .i64 0,.int .i64 0,.int .i64 0,.int .i64 0]) ?_ 1 _ rfl
  with_reducible refine bg (cs:=#[.int .i64 0,.int .i64 0,.int .i64 0,.int .i64 0,.int .i64 0]) ?_ 0 _ rfl
  repeat (first | (with_reducible refine aG ?_ _) | (with_reducible refine aC ?_ _) | (with_reducible refine dU ?_ (by simp) _))
  exact bU (aC (iU _ _) _) hb
 repeat (first | (with_reducible refine Below.drewN' ?_ _) | (with_reducible refine Below.setCell ?_ (by simp) _) | (with_reducible refine Below.alloc ?_ (by first | omega | (simp; omega)) _))
 exact (((Below.refl w.heap.size w).alloc (Nat.le_refl _) _).alloc (by simp) _).trans (hb.mono (by simp; omega))
theorem abR (w0 : Int) (h0 : 0 ≤ w0) (h1 : w0 < 4294967296) (n1 : ByteArray) (s1 c1 : Int) (r1 r2 : ByteArray) (ht : aT.f (w0 / 16777216) = some (n1,s1,c1,r1,r2,true)) (A B C : Bool) (lo hi : Int) (hh : bK.f s1 = some (A,B,C,lo,hi)) (hC : C = false) (hhi : 0 < hi) (hl : lo < 0) (hw : hi < w0 % 65536) (f0 : ji (w0 / 1048576 % 16) A = true) (f1 : ji (w0 / 65536 % 16) B = false) (w : World) :
  Calls Tryz.prog 40 #[.int .u32 w0] w fun e w' => e = .returned (.tuple #[.agg #[.int .i64 0,.int .i64 0,.int .i64 0,.int .i64 0,.int .i64 0],.int .i64 61]) ∧ Below w.heap.size w w':=by
 have hu:=Tryz.underlying70
 have uh:=Tryz.underlying133
 have HT:=Lib.hid ht
 clear ht
 have HH:=Lib.hid hh
 clear hh
 subst hC
 go_enter Tryz.func40,Tryz.ntmps40
 go_wp2_with (first | (go_at_call 83; refine (aT.calls _ _ _ _ _ _ _ _ HT.out).mono ?_; rintro e w' ⟨rfl,hb⟩; obtain ⟨hc,hf⟩:=sG hb; have hz : w.heap.size + 1 < w'.heap.size:=(by have:=hb.size; simp at this; omega); have hz0 : w.heap.size < w'.heap.size:=(by omega)) | (go_at_call 43; refine (bK.calls _ _ _ _ _ _ _ HH.out).mono ?_; rintro e w2 ⟨rfl,⟨nd,rfl⟩⟩) | (go_at_call 84; refine (fP _ _ _).mono ?_; rintro e w3 ⟨rfl,⟨Ql,rfl⟩⟩))
 refine bodyPost_ret (dw rfl _ _ w.heap.size 70 #[.int .i64 0,.int .i64 0,.int .i64 0,.int .i64 0,.int .i64 0] (0,0) _ rfl ?hbl hu rfl (by kernel_rfl)) rfl ⟨rfl,?_⟩
 case hbl =>
  repeat (first | (with_reducible refine aG ?_ _) | (with_reducible refine aC ?_ _))
  with_reducible refine bg (cs:=#[.int .i64 0,.int .i64 0,.int .i64 0,.int .i64 0,.int .i64 0]) ?_ 4 _ rfl
  with_reducible refine bg (cs:=#[.int .i64 0,.int .i64 0,.int .i64 0,.int .i64 0,.int .i64 0]) ?_ 3 _ rfl
  with_reducible refine bg (cs:=#[.int .i64 0,.int .i64 0,.int .i64 0,.int .i64 0,.int .i64 0]) ?_ 2 _ rfl
  with_reducible refine bg (cs:=#[.int .i64 0,.int .i64 0,.int .i64 0,.int .i64 0,.int .i64 0]) ?_ 1 _ rfl
  with_reducible refine bg (cs:=#[.int .i64 0,.int .i64 0,.int .i64 0,.int .i64 0,.int .i64 0]) ?_ 0 _ rfl
  repeat (first | (with_reducible refine aG ?_ _) | (with_reducible refine aC ?_ _) | (with_reducible refine dU ?_ (by simp) _))
  exact bU (aC (iU _ _) _) hb
 repeat (first | (with_reducible refine Below.drewN' ?_ _) | (with_reducible refine Below.setCell ?_ (by simp) _) | (with_reducible refine Below.alloc ?_ (by first | omega | (simp; omega)) _))
 exact (((Below.refl w.heap.size w).alloc (Nat.le_refl _) _).alloc (by simp) _).trans (hb.mono (by simp; omega))
theorem abS (w0 : Int) (h0 : 0 ≤ w0) (h1 : w0 < 4294967296) (n1 : ByteArray) (s1 c1 : Int) (r1 r2 : ByteArray) (ht : aT.f (w0 / 16777216) = some (n1,s1,c1,r1,r2,true)) (A B C : Bool) (lo hi : Int) (hh : bK.f s1 = some (A,B,C,lo,hi)) (hC : C = false) (hhi : 0 < hi) (hl : lo < 0) (hw : hi < w0 % 65536) (f0 : ji (w0 / 1048576 % 16) A = true) (f1 : ji (w0 / 65536 % 16) B = true) (f2 : ji 0 false = true) (w : World) :
  Calls Tryz.prog 40 #[.int .u32 w0] w fun e w' => e = .returned (.tuple #[.agg #[.int .i64 (w0 / 16777216),.int .i64 (w0 / 1048576 % 16),.int .i64 (w0 / 65536 % 16),.int .i64 0,.int .i64 (w0 % 65536 - 65536)],.int .i64 0]) ∧ Below w.heap.size w w':=by
 have hu:=Tryz.underlying70
 have uh:=Tryz.underlying133
 have HT:=Lib.hid ht
 clear ht
 have HH:=Lib.hid hh
 clear hh
 subst hC
 go_enter Tryz.func40,Tryz.ntmps40
 go_wp2_with (first | (go_at_call 83; refine (aT.calls _ _ _ _ _ _ _ _ HT.out).mono ?_; rintro e w' ⟨rfl,hb⟩; obtain ⟨hc,hf⟩:=sG hb; have hz : w.heap.size + 1 < w'.heap.size:=(by have:=hb.size; simp at this; omega); have hz0 : w.heap.size < w'.heap.size:=(by omega)) | (go_at_call 43; refine (bK.calls _ _ _ _ _ _ _ HH.out).mono ?_; rintro e w2 ⟨rfl,⟨nd,rfl⟩⟩))
 generalize hW2 : World.setCell _ ⟨w.heap.size + 1,4,none⟩ (.int .i64 (w0 % 65536 - 65536)) = W2
 have hb1 : W2.heap[w.heap.size + 1]? = some (.cells #[.int .i64 (w0 / 16777216),.int .i64 (w0 / 1048576 % 16),.int .i64 (w0 / 65536 % 16),.int .i64 0,.int .i64 (w0 % 65536 - 65536)] 70 (0,0)):=by
  subst hW2
  with_reducible refine bg (cs:=#[.int .i64 (w0 / 16777216),.int .i64 (w0 / 1048576 % 16),.int .i64 (w0 / 65536 % 16),.int .i64 0,.int .i64 (w0 % 65536)]) ?_ 4 _ rfl
  with_reducible refine bg (cs:=#[.int .i64 (w0 / 16777216),.int .i64 (w0 / 1048576 % 16),.int .i64 (w0 / 65536 % 16),.int .i64 0,.int .i64 0]) ?_ 4 _ rfl
  with_reducible refine bg (cs:=#[.int .i64 (w0 / 16777216),.int .i64 (w0 / 1048576 % 16),.int .i64 0,.int .i64 0,.int .i64 0]) ?_ 2 _ rfl
  with_reducible refine bg (cs:=#[.int .i64 (w0 / 16777216),.int .i64 0,.int .i64 0,.int .i64 0,.int .i64 0]) ?_ 1 _ rfl
  repeat (first | (with_reducible refine aG ?_ _) | (with_reducible refine aC ?_ _))
  exact bU (heap_alloc2_new _ _ _) hb
 have hb0 : W2.heap[w.heap.size]? = some (.cells #[.int .i64 0,.int .i64 0,.int .i64 0,.int .i64 0,.int .i64 0] 70 (0,0)):=by
  subst hW2
  repeat (first | (with_reducible refine aG ?_ _) | (with_reducible refine aC ?_ _) | (with_reducible refine dU ?_ (by simp) _))
  exact bU (aC (iU _ _) _) hb
 have hbel : Below w.heap.size w W2:=by
  subst hW2
  repeat (first | (with_reducible refine Below.drewN' ?_ _) | (with_reducible refine Below.setCell ?_ (by simp) _) | (with_reducible refine Below.alloc ?_ (by first | omega | (simp; omega)) _))
  exact (((Below.refl w.heap.size w).alloc (Nat.le_refl _) _).alloc (by simp) _).trans (hb.mono (by simp; omega))
 clear hW2
 have k0 : W2.cell? ⟨w.heap.size + 1,0,none⟩ = some (.int .i64 (w0 / 16777216)):=(aA hb1 0).trans rfl
 have l0 : W2.cell? ⟨w.heap.size,0,none⟩ = some (.int .i64 0):=(aA hb0 0).trans rfl
 have m0 : W2.frozen? ⟨w.heap.size,0,none⟩ = false:=frozen_of_row _ _ _ _ _ hb0
 have k1 : W2.cell? ⟨w.heap.size + 1,1,none⟩ = some (.int .i64 (w0 / 1048576 % 16)):=(aA hb1 1).trans rfl
 have l1 : W2.cell? ⟨w.heap.size,1,none⟩ = some (.int .i64 0):=(aA hb0 1).trans rfl
 have m1 : W2.frozen? ⟨w.heap.size,1,none⟩ = false:=frozen_of_row _ _ _ _ _ hb0
 have k2 : W2.cell? ⟨w.heap.size + 1,2,none⟩ = some (.int .i64 (w0 / 65536 % 16)):=(aA hb1 2).trans rfl
 have l2 : W2.cell? ⟨w.heap.size,2,none⟩ = some (.int .i64 0):=(aA hb0 2).trans rfl
 have m2 : W2.frozen? ⟨w.heap.size,2,none⟩ = false:=frozen_of_row _ _ _ _ _ hb0
 have k3 : W2.cell? ⟨w.heap.size + 1,3,none⟩ = some (.int .i64 0):=(aA hb1 3).trans rfl
 have l3 : W2.cell? ⟨w.heap.size,3,none⟩ = some (.int .i64 0):=(aA hb0 3).trans rfl
 have m3 : W2.frozen? ⟨w.heap.size,3,none⟩ = false:=frozen_of_row _ _ _ _ _ hb0
 have k4 : W2.cell? ⟨w.heap.size + 1,4,none⟩ = some (.int .i64 (w0 % 65536 - 65536)):=(aA hb1 4).trans rfl
 have l4 : W2.cell? ⟨w.heap.size,4,none⟩ = some (.int .i64 0):=(aA hb0 4).trans rfl
 have m4 : W2.frozen? ⟨w.heap.size,4,none⟩ = false:=frozen_of_row _ _ _ _ _ hb0
 have HB0:=Lib.hid hb0
 have HB1:=Lib.hid hb1
 have HBE:=hbel
 clear hb0 hb1 hc hf hb
 go_wp2_with (first | (go_at_call 84; refine (fP _ _ _).mono ?_; rintro e w3 ⟨rfl,⟨Ql,rfl⟩⟩))
 refine bodyPost_ret (dw rfl _ _ w.heap.size 70 #[.int .i64 (w0 / 16777216),.int .i64 (w0 / 1048576 % 16),.int .i64 (w0 / 65536 % 16),.int .i64 0,.int .i64 (w0 % 65536 - 65536)] (0,0) _ rfl ?hbl hu rfl (by kernel_rfl)) rfl ⟨rfl,?_⟩
 case hbl =>
  repeat (first | (with_reducible refine aG ?_ _) | (with_reducible refine aC ?_ _))
  with_reducible refine bg (cs:=#[.int .i64 (w0 / 16777216),.int .i64 (w0 / 1048576 % 16),.int .i64 (w0 / 65536 % 16),.int .i64 0,.int .i64 0]) ?_ 4 _ rfl
  with_reducible refine bg (cs:=#[.int .i64 (w0 / 16777216),.int .i64 (w0 / 1048576 % 16),.int .i64 (w0 / 65536 % 16),.int .i64 0,.int .i64 0]) ?_ 3 _ rfl
  with_reducible refine bg (cs:=#[.int .i64 (w0 / 16777216),.int .i64 (w0 / 1048576 % 16),.int .i64 0,.int .i64 0,.int .i64 0]) ?_ 2 _ rfl
  with_reducible refine bg (cs:=#[.int .i64 (w0 / 16777216),.int .i64 0,.int .i64 0,.int .i64 0,.int .i64 0]) ?_ 1 _ rfl
  with_reducible refine bg (cs:=#[.int .i64 0,.int .i64 0,.int .i64 0,.int .i64 0,.int .i64 0]) ?_ 0 _ rfl
  repeat (first | (with_reducible refine aG ?_ _) | (with_reducible refine aC ?_ _) | (with_reducible refine dU ?_ (by simp) _))
  exact HB0.out
 repeat (first | (with_reducible refine Below.drewN' ?_ _) | (with_reducible refine Below.setCell ?_ (by simp) _) | (with_reducible refine Below.alloc ?_ (by first | omega | (simp; omega)) _))
 exact HBE
theorem abT (w0 : Int) (h0 : 0 ≤ w0) (h1 : w0 < 4294967296) (n1 : ByteArray) (s1 c1 : Int) (r1 r2 : ByteArray) (ht : aT.f (w0 / 16777216) = some (n1,s1,c1,r1,r2,true)) (A B C : Bool) (lo hi : Int) (hh : bK.f s1 = some (A,B,C,lo,hi)) (hC : C = false) (hhi : 0 < hi) (hl : ¬ lo < 0) (f0 : ji (w0 / 1048576 % 16) A = false) (w : World) :
  Calls Tryz.prog 40 #[.int .u32 w0] w fun e w' => e = .returned (.tuple #[.agg #[.int .i64 0,.int .i64 0,.int .i64 0,.int .i64 0,.int .i64 0],.int .i64 61]) ∧ Below w.heap.size w w':=by
 have hu:=Tryz.underlying70
 have uh:=Tryz.underlying133
 have HT:=Lib.hid ht
 clear ht
 have HH:=Lib.hid hh
 clear hh
 subst hC
 go_enter Tryz.func40,Tryz.ntmps40
 go_wp2_with (first | (go_at_call 83; refine (aT.calls _ _ _ _ _ _ _ _ HT.out).mono ?_; rintro e w' ⟨rfl,hb⟩; obtain ⟨hc,hf⟩:=sG hb; have hz : w.heap.size + 1 < w'.heap.size:=(by have:=hb.size; simp at this; omega); have hz0 : w.heap.size < w'.heap.size:=(by omega)) | (go_at_call 43; refine (bK.calls _ _ _ _ _ _ _ HH.out).mono ?_; rintro e w2 ⟨rfl,⟨nd,rfl⟩⟩) | (go_at_call 84; refine (fP _ _ _).mono ?_; rintro e w3 ⟨rfl,⟨Ql,rfl⟩⟩))
 refine bodyPost_ret (dw rfl _ _ w.heap.size 70 #[.int .i64 0,.int .i64 0,.int .i64 0,.int .i64 0,.int .i64 0] (0,0) _ rfl ?hbl hu rfl (by kernel_rfl)) rfl ⟨rfl,?_⟩
 case hbl =>
  repeat (first | (with_reducible refine aG ?_ _) | (with_reducible refine aC ?_ _))
  with_reducible refine bg (cs:=#[.int .i64 0,.int .i64 0,.int .i64 0,.int .i64 0,.int .i64 0]) ?_ 4 _ rfl
  with_reducible refine bg (cs:=#[.int .i64 0,.int .i64 0,.int .i64 0,.int .i64 0,.int .i64 0]) ?_ 3 _ rfl
  with_reducible refine bg (cs:=#[.int .i64 0,.int .i64 0,.int .i64 0,.int .i64 0,.int .i64 0]) ?_ 2 _ rfl
  with_reducible refine bg (cs:=#[.int .i64 0,.int .i64 0,.int .i64 0,.int .i64 0,.int .i64 0]) ?_ 1 _ rfl
  with_reducible refine bg (cs:=#[.int .i64 0,.int .i64 0,.int .i64 0,.int .i64 0,.int .i64 0]) ?_ 0 _ rfl
  repeat (first | (with_reducible refine aG ?_ _) | (with_reducible refine aC ?_ _) | (with_reducible refine dU ?_ (by simp) _))
  exact bU (aC (iU _ _) _) hb
 repeat (first | (with_reducible refine Below.drewN' ?_ _) | (with_reducible refine Below.setCell ?_ (by simp) _) | (with_reducible refine Below.alloc ?_ (by first | omega | (simp; omega)) _))
 exact (((Below.refl w.heap.size w).alloc (Nat.le_refl _) _).alloc (by simp) _).trans (hb.mono (by simp; omega))
theorem abU (w0 : Int) (h0 : 0 ≤ w0) (h1 : w0 < 4294967296) (n1 : ByteArray) (s1 c1 : Int) (r1 r2 : ByteArray) (ht : aT.f (w0 / 16777216) = some (n1,s1,c1,r1,r2,true)) (A B C : Bool) (lo hi : Int) (hh : bK.f s1 = some (A,B,C,lo,hi)) (hC : C = false) (hhi : 0 < hi) (hl : ¬ lo < 0) (f0 : ji (w0 / 1048576 % 16) A = true) (f1 : ji (w0 / 65536 % 16) B = false) (w : World) :
  Calls Tryz.prog 40 #[.int .u32 w0] w fun e w' => e = .returned (.tuple #[.agg #[.int .i64 0,.int .i64 0,.int .i64 0,.int .i64 0,.int .i64 0],.int .i64 61]) ∧ Below w.heap.size w w':=by
 have hu:=Tryz.underlying70
 have uh:=Tryz.underlying133
 have HT:=Lib.hid ht
 clear ht
 have HH:=Lib.hid hh
 clear hh
 subst hC
 go_enter Tryz.func40,Tryz.ntmps40
 go_wp2_with (first | (go_at_call 83; refine (aT.calls _ _ _ _ _ _ _ _ HT.out).mono ?_; rintro e w' ⟨rfl,hb⟩; obtain ⟨hc,hf⟩:=sG hb; have hz : w.heap.size + 1 < w'.heap.size:=(by have:=hb.size; simp at this; omega); have hz0 : w.heap.size < w'.heap.size:=(by omega)) | (go_at_call 43; refine (bK.calls _ _ _ _ _ _ _ HH.out).mono ?_; rintro e w2 ⟨rfl,⟨nd,rfl⟩⟩) | (go_at_call 84; refine (fP _ _ _).mono ?_; rintro e w3 ⟨rfl,⟨Ql,rfl⟩⟩))
 refine bodyPost_ret (dw rfl _ _ w.heap.size 70 #[.int .i64 0,.int .i64 0,.int .i64 0,.int .i64 0,.int .i64 0] (0,0) _ rfl ?hbl hu rfl (by kernel_rfl)) rfl ⟨rfl,?_⟩
 case hbl =>
  repeat (first | (with_reducible refine aG ?_ _) | (with_reducible refine aC ?_ _))
  with_reducible refine bg (cs:=#[.int .i64 0,.int .i64 0,.int .i64 0,.int .i64 0,.int .i64 0]) ?_ 4 _ rfl
  with_reducible refine bg (cs:=#[.int .i64 0,.int .i64 0,.int .i64 0,.int .i64 0,.int .i64 0]) ?_ 3 _ rfl
  with_reducible refine bg (cs:=#[.int .i64 0,.int .i64 0,.int .i64 0,.int .i64 0,.int .i64 0]) ?_ 2 _ rfl
  with_reducible refine bg (cs:=#[.int .i64 0,.int .i64 0,.int .i64 0,.int .i64 0,.int .i64 0]) ?_ 1 _ rfl
  with_reducible refine bg (cs:=#[.int .i64 0,.int .i64 0,.int .i64 0,.int .i64 0,.int .i64 0]) ?_ 0 _ rfl
  repeat (first | (with_reducible refine aG ?_ _) | (with_reducible refine aC ?_ _) | (with_reducible refine dU ?_ (by simp) _))
  exact bU (aC (iU _ _) _) hb
 repeat (first | (with_reducible refine Below.drewN' ?_ _) | (with_reducible refine Below.setCell ?_ (by simp) _) | (with_reducible refine Below.alloc ?_ (by first | omega | (simp; omega)) _))
 exact (((Below.refl w.heap.size w).alloc (Nat.le_refl _) _).alloc (by simp) _).trans (hb.mono (by simp; omega))
theorem abV (w0 : Int) (h0 : 0 ≤ w0) (h1 : w0 < 4294967296) (n1 : ByteArray) (s1 c1 : Int) (r1 r2 : ByteArray) (ht : aT.f (w0 / 16777216) = some (n1,s1,c1,r1,r2,true)) (A B C : Bool) (lo hi : Int) (hh : bK.f s1 = some (A,B,C,lo,hi)) (hC : C = false) (hhi : 0 < hi) (hl : ¬ lo < 0) (f0 : ji (w0 / 1048576 % 16) A = true) (f1 : ji (w0 / 65536 % 16) B = true) (f2 : ji 0 false = true) (w : World) :
  Calls Tryz.prog 40 #[.int .u32 w0] w fun e w' => e = .returned (.tuple #[.agg #[.int .i64 (w0 / 16777216),.int .i64 (w0 / 1048576 % 16),.int .i64 (w0 / 65536 % 16),.int .i64 0,.int .i64 (w0 % 65536)],.int .i64 0]) ∧ Below w.heap.size w w':=by
 have hu:=Tryz.underlying70
 have uh:=Tryz.underlying133
 have HT:=Lib.hid ht
 clear ht
 have HH:=Lib.hid hh
 clear hh
 subst hC
 go_enter Tryz.func40,Tryz.ntmps40
 go_wp2_with (first | (go_at_call 83; refine (aT.calls _ _ _ _ _ _ _ _ HT.out).mono ?_; rintro e w' ⟨rfl,hb⟩; obtain ⟨hc,hf⟩:=sG hb; have hz : w.heap.size + 1 < w'.heap.size:=(by have:=hb.size; simp at this; omega); have hz0 : w.heap.size < w'.heap.size:=(by omega)) | (go_at_call 43; refine (bK.calls _ _ _ _ _ _ _ HH.out).mono ?_; rintro e w2 ⟨rfl,⟨nd,rfl⟩⟩) | (go_at_call 84; refine (fP _ _ _).mono ?_; rintro e w3 ⟨rfl,⟨Ql,rfl⟩⟩))
 refine bodyPost_ret (dw rfl _ _ w.heap.size 70 #[.int .i64 (w0 / 16777216),.int .i64 (w0 / 1048576 % 16),.int .i64 (w0 / 65536 % 16),.int .i64 0,.int .i64 (w0 % 65536)] (0,0) _ rfl ?hbl hu rfl (by kernel_rfl)) rfl ⟨rfl,?_⟩
 case hbl =>
  repeat (first | (with_reducible refine aG ?_ _) | (with_reducible refine aC ?_ _))
  with_reducible refine bg (cs:=#[.int .i64 (w0 / 16777216),.int .i64 (w0 / 1048576 % 16),.int .i64 (w0 / 65536 % 16),.int .i64 0,.int .i64 0]) ?_ 4 _ rfl
  with_reducible refine bg (cs:=#[.int .i64 (w0 / 16777216),.int .i64 (w0 / 1048576 % 16),.int .i64 (w0 / 65536 % 16),.int .i64 0,.int .i64 0]) ?_ 3 _ rfl
  with_reducible refine bg (cs:=#[.int .i64 (w0 / 16777216),.int .i64 (w0 / 1048576 % 16),.int .i64 0,.int .i64 0,.int .i64 0]) ?_ 2 _ rfl
  with_reducible refine bg (cs:=#[.int .i64 (w0 / 16777216),.int .i64 0,.int .i64 0,.int .i64 0,.int .i64 0]) ?_ 1 _ rfl
  with_reducible refine bg (cs:=#[.int .i64 0,.int .i64 0,.int .i64 0,.int .i64 0,.int .i64 0]) ?_ 0 _ rfl
  repeat (first | (with_reducible refine aG ?_ _) | (with_reducible refine aC ?_ _) | (with_reducible refine dU ?_ (by simp) _))
  exact bU (aC (iU _ _) _) hb
 repeat (first | (with_reducible refine Below.drewN' ?_ _) | (with_reducible refine Below.setCell ?_ (by simp) _) | (with_reducible refine Below.alloc ?_ (by first | omega | (simp; omega)) _))
 exact (((Below.refl w.heap.size w).alloc (Nat.le_refl _) _).alloc (by simp) _).trans (hb.mono (by simp; omega))
theorem abW (w0 : Int) (h0 : 0 ≤ w0) (h1 : w0 < 4294967296) (n1 : ByteArray) (s1 c1 : Int) (r1 r2 : ByteArray) (ht : aT.f (w0 / 16777216) = some (n1,s1,c1,r1,r2,true)) (A B C : Bool) (lo hi : Int) (hh : bK.f s1 = some (A,B,C,lo,hi)) (hC : C = false) (hhi : 0 < hi) (hl : lo < 0) (hw : ¬ hi < w0 % 65536) (f0 : ji (w0 / 1048576 % 16) A = false) (w : World) :
  Calls Tryz.prog 40 #[.int .u32 w0] w fun e w' => e = .returned (.tuple #[.agg #[.int .i64 0,.int .i64 0,.int .i64 0,.int .i64 0,.int .i64 0],.int .i64 61]) ∧ Below w.heap.size w w':=by
 have hu:=Tryz.underlying70
 have uh:=Tryz.underlying133
 have HT:=Lib.hid ht
 clear ht
 have HH:=Lib.hid hh
 clear hh
 subst hC
 go_enter Tryz.func40,Tryz.ntmps40
 go_wp2_with (first | (go_at_call 83; refine (aT.calls _ _ _ _ _ _ _ _ HT.out).mono ?_; rintro e w' ⟨rfl,hb⟩; obtain ⟨hc,hf⟩:=sG hb; have hz : w.heap.size + 1 < w'.heap.size:=(by have:=hb.size; simp at this; omega); have hz0 : w.heap.size < w'.heap.size:=(by omega)) | (go_at_call 43; refine (bK.calls _ _ _ _ _ _ _ HH.out).mono ?_; rintro e w2 ⟨rfl,⟨nd,rfl⟩⟩) | (go_at_call 84; refine (fP _ _ _).mono ?_; rintro e w3 ⟨rfl,⟨Ql,rfl⟩⟩))
 refine bodyPost_ret (dw rfl _ _ w.heap.size 70 #[.int .i64 0,.int .i64 0,.int .i64 0,.int .i64 0,.int .i64 0] (0,0) _ rfl ?hbl hu rfl (by kernel_rfl)) rfl ⟨rfl,?_⟩
 case hbl =>
  repeat (first | (with_reducible refine aG ?_ _) | (with_reducible refine aC ?_ _))
  with_reducible refine bg (cs:=#[.int .i64 0,.int .i64 0,.int .i64 0,.int .i64 0,.int .i64 0]) ?_ 4 _ rfl
  with_reducible refine bg (cs:=#[.int .i64 0,.int .i64 0,.int .i64 0,.int .i64 0,.int .i64 0]) ?_ 3 _ rfl
  with_reducible refine bg (cs:=#[.int .i64 0,.int .i64 0,.int .i64 0,.int .i64 0,.int .i64 0]) ?_ 2 _ rfl
  with_reducible refine bg (cs:=#[.int .i64 0,.int .i64 0,.int .i64 0,.int .i64 0,.int .i64 0]) ?_ 1 _ rfl
  with_reducible refine bg (cs:=#[.int .i64 0,.int .i64 0,.int .i64 0,.int .i64 0,.int .i64 0]) ?_ 0 _ rfl
  repeat (first | (with_reducible refine aG ?_ _) | (with_reducible refine aC ?_ _) | (with_reducible refine dU ?_ (by simp) _))
  exact bU (aC (iU _ _) _) hb
 repeat (first | (with_reducible refine Below.drewN' ?_ _) | (with_reducible refine Below.setCell ?_ (by simp) _) | (with_reducible refine Below.alloc ?_ (by first | omega | (simp; omega)) _))
 exact (((Below.refl w.heap.size w).alloc (Nat.le_refl _) _).alloc (by simp) _).trans (hb.mono (by simp; omega))
theorem abX (w0 : Int) (h0 : 0 ≤ w0) (h1 : w0 < 4294967296) (n1 : ByteArray) (s1 c1 : Int) (r1 r2 : ByteArray) (ht : aT.f (w0 / 16777216) = some (n1,s1,c1,r1,r2,true)) (A B C : Bool) (lo hi : Int) (hh : bK.f s1 = some (A,B,C,lo,hi)) (hC : C = false) (hhi : 0 < hi) (hl : lo < 0) (hw : ¬ hi < w0 % 65536) (f0 : ji (w0 / 1048576 % 16) A = true) (f1 : ji (w0 / 65536 % 16) B = false) (w : World) :
  Calls Tryz.prog 40 #[.int .u32 w0] w fun e w' => e = .returned (.tuple #[.agg #[.int .i64 0,.int .i64 0,.int .i64 0,.int .i64 0,.int .i64 0],.int .i64 61]) ∧ Below w.heap.size w w':=by
 have hu:=Tryz.underlying70
 have uh:=Tryz.underlying133
 have HT:=Lib.hid ht
 clear ht
 have HH:=Lib.hid hh
 clear hh
 subst hC
 go_enter Tryz.func40,Tryz.ntmps40
 go_wp2_with (first | (go_at_call 83; refine (aT.calls _ _ _ _ _ _ _ _ HT.out).mono ?_; rintro e w' ⟨rfl,hb⟩; obtain ⟨hc,hf⟩:=sG hb; have hz : w.heap.size + 1 < w'.heap.size:=(by have:=hb.size; simp at this; omega); have hz0 : w.heap.size < w'.heap.size:=(by omega)) | (go_at_call 43; refine (bK.calls _ _ _ _ _ _ _ HH.out).mono ?_; rintro e w2 ⟨rfl,⟨nd,rfl⟩⟩) | (go_at_call 84; refine (fP _ _ _).mono ?_; rintro e w3 ⟨rfl,⟨Ql,rfl⟩⟩))
 refine bodyPost_ret (dw rfl _ _ w.heap.size 70 #[.int .i64 0,.int .i64 0,.int .i64 0,.int .i64 0,.int .i64 0] (0,0) _ rfl ?hbl hu rfl (by kernel_rfl)) rfl ⟨rfl,?_⟩
 case hbl =>
  repeat (first | (with_reducible refine aG ?_ _) | (with_reducible refine aC ?_ _))
  with_reducible refine bg (cs:=#[.int .i64 0,.int .i64 0,.int .i64 0,.int .i64 0,.int .i64 0]) ?_ 4 _ rfl
  with_reducible refine bg (cs:=#[.int .i64 0,.int .i64 0,.int .i64 0,.int .i64 0,.int .i64 0]) ?_ 3 _ rfl
  with_reducible refine bg (cs:=#[.int .i64 0,.int .i64 0,.int .i64 0,.int .i64 0,.int .i64 0]) ?_ 2 _ rfl
  with_reducible refine bg (cs:=#[.int .i64 0,.int .i64 0,.int .i64 0,.int .i64 0,.int .i64 0]) ?_ 1 _ rfl
  with_reducible refine bg (cs:=#[.int .i64 0,.int .i64 0,.int .i64 0,.int .i64 0,.int .i64 0]) ?_ 0 _ rfl
  repeat (first | (with_reducible refine aG ?_ _) | (with_reducible refine aC ?_ _) | (with_reducible refine dU ?_ (by simp) _))
  exact bU (aC (iU _ _) _) hb
 repeat (first | (with_reducible refine Below.drewN' ?_ _) | (with_reducible refine Below.setCell ?_ (by simp) _) | (with_reducible refine Below.alloc ?_ (by first | omega | (simp; omega)) _))
 exact (((Below.refl w.heap.size w).alloc (Nat.le_refl _) _).alloc (by simp) _).trans (hb.mono (by simp; omega))
theorem abY (w0 : Int) (h0 : 0 ≤ w0) (h1 : w0 < 4294967296) (n1 : ByteArray) (s1 c1 : Int) (r1 r2 : ByteArray) (ht : aT.f (w0 / 16777216) = some (n1,s1,c1,r1,r2,true)) (A B C : Bool) (lo hi : Int) (hh : bK.f s1 = some (A,B,C,lo,hi)) (hC : C = false) (hhi : 0 < hi) (hl : lo < 0) (hw : ¬ hi < w0 % 65536) (f0 : ji (w0 / 1048576 % 16) A = true) (f1 : ji (w0 / 65536 % 16) B = true) (f2 : ji 0 false = true) (w : World) :
  Calls Tryz.prog 40 #[.int .u32 w0] w fun e w' => e = .returned (.tuple #[.agg #[.int .i64 (w0 / 16777216),.int .i64 (w0 / 1048576 % 16),.int .i64 (w0 / 65536 % 16),.int .i64 0,.int .i64 (w0 % 65536)],.int .i64 0]) ∧ Below w.heap.size w w':=by
 have hu:=Tryz.underlying70
 have uh:=Tryz.underlying133
 have HT:=Lib.hid ht
 clear ht
 have HH:=Lib.hid hh
 clear hh
 subst hC
 go_enter Tryz.func40,Tryz.ntmps40
 go_wp2_with (first | (go_at_call 83; refine (aT.calls _ _ _ _ _ _ _ _ HT.out).mono ?_; rintro e w' ⟨rfl,hb⟩; obtain ⟨hc,hf⟩:=sG hb; have hz : w.heap.size + 1 < w'.heap.size:=(by have:=hb.size; simp at this; omega); have hz0 : w.heap.size < w'.heap.size:=(by omega)) | (go_at_call 43; refine (bK.calls _ _ _ _ _ _ _ HH.out).mono ?_; rintro e w2 ⟨rfl,⟨nd,rfl⟩⟩) | (go_at_call 84; refine (fP _ _ _).mono ?_; rintro e w3 ⟨rfl,⟨Ql,rfl⟩⟩))
 refine bodyPost_ret (dw rfl _ _ w.heap.size 70 #[.int .i64 (w0 / 16777216),.int .i64 (w0 / 1048576 % 16),.int .i64 (w0 / 65536 % 16),.int .i64 0,.int .i64 (w0 % 65536)] (0,0) _ rfl ?hbl hu rfl (by kernel_rfl)) rfl ⟨rfl,?_⟩
 case hbl =>
  repeat (first | (with_reducible refine aG ?_ _) | (with_reducible refine aC ?_ _))
  with_reducible refine bg (cs:=#[.int .i64 (w0 / 16777216),.int .i64 (w0 / 1048576 % 16),.int .i64 (w0 / 65536 % 16),.int .i64 0,.int .i64 0]) ?_ 4 _ rfl
  with_reducible refine bg (cs:=#[.int .i64 (w0 / 16777216),.int .i64 (w0 / 1048576 % 16),.int .i64 (w0 / 65536 % 16),.int .i64 0,.int .i64 0]) ?_ 3 _ rfl
  with_reducible refine bg (cs:=#[.int .i64 (w0 / 16777216),.int .i64 (w0 / 1048576 % 16),.int .i64 0,.int .i64 0,.int .i64 0]) ?_ 2 _ rfl
  with_reducible refine bg (cs:=#[.int .i64 (w0 / 16777216),.int .i64 0,.int .i64 0,.int .i64 0,.int .i64 0]) ?_ 1 _ rfl
  with_reducible refine bg (cs:=#[.int .i64 0,.int .i64 0,.int .i64 0,.int .i64 0,.int .i64 0]) ?_ 0 _ rfl
  repeat (first | (with_reducible refine aG ?_ _) | (with_reducible refine aC ?_ _) | (with_reducible refine dU ?_ (by simp) _))
  exact bU (aC (iU _ _) _) hb
 repeat (first | (with_reducible refine Below.drewN' ?_ _) | (with_reducible refine Below.setCell ?_ (by simp) _) | (with_reducible refine Below.alloc ?_ (by first | omega | (simp; omega)) _))
 exact (((Below.refl w.heap.size w).alloc (Nat.le_refl _) _).alloc (by simp) _).trans (hb.mono (by simp; omega))
theorem abZ (w0 : Int) (h0 : 0 ≤ w0) (h1 : w0 < 4294967296) (n1 : ByteArray) (s1 c1 : Int) (r1 r2 : ByteArray) (ht : aT.f (w0 / 16777216) = some (n1,s1,c1,r1,r2,true)) (A B C : Bool) (lo hi : Int) (hh : bK.f s1 = some (A,B,C,lo,hi)) (hC : C = false) (hhi : ¬ 0 < hi) (hw : w0 % 65536 = 0) (f0 : ji (w0 / 1048576 % 16) A = false) (w : World) :
  Calls Tryz.prog 40 #[.int .u32 w0] w fun e w' => e = .returned (.tuple #[.agg #[.int .i64 0,.int .i64 0,.int .i64 0,.int .i64 0,.int .i64 0],.int .i64 61]) ∧ Below w.heap.size w w':=by
 have hu:=Tryz.underlying70
 have uh:=Tryz.underlying133
 have HT:=Lib.hid ht
 clear ht
 have HH:=Lib.hid hh
 clear hh
 subst hC
 replace hw : (w0 % 65536 == 0) = true:=beq_iff_eq.2 hw
 go_enter Tryz.func40,Tryz.ntmps40
 go_wp2_with (first | (go_at_call 83; refine (aT.calls _ _ _ _ _ _ _ _ HT.out).mono ?_; rintro e w' ⟨rfl,hb⟩; obtain ⟨hc,hf⟩:=sG hb; have hz : w.heap.size + 1 < w'.heap.size:=(by have:=hb.size; simp at this; omega); have hz0 : w.heap.size < w'.heap.size:=(by omega)) | (go_at_call 43; refine (bK.calls _ _ _ _ _ _ _ HH.out).mono ?_; rintro e w2 ⟨rfl,⟨nd,rfl⟩⟩) | (go_at_call 84; refine (fP _ _ _).mono ?_; rintro e w3 ⟨rfl,⟨Ql,rfl⟩⟩))
 refine bodyPost_ret (dw rfl _ _ w.heap.size 70 #[.int .i64 0,.int .i64 0,.int .i64 0,.int .i64 0,.int .i64 0] (0,0) _ rfl ?hbl hu rfl (by kernel_rfl)) rfl ⟨rfl,?_⟩
 case hbl =>
  repeat (first | (with_reducible refine aG ?_ _) | (with_reducible refine aC ?_ _))
  with_reducible refine bg (cs:=#[.int .i64 0,.int .i64 0,.int .i64 0,.int .i64 0,.int .i64 0]) ?_ 4 _ rfl
  with_reducible refine bg (cs:=#[.int .i64 0,.int .i64 0,.int .i64 0,.int .i64 0,.int .i64 0]) ?_ 3 _ rfl
  with_reducible refine bg (cs:=#[.int .i64 0,.int .i64 0,.int .i64 0,.int .i64 0,.int .i64 0]) ?_ 2 _ rfl
  with_reducible refine bg (cs:=#[.int .i64 0,.int .i64 0,.int .i64 0,.int .i64 0,.int .i64 0]) ?_ 1 _ rfl
  with_reducible refine bg (cs:=#[.int .i64 0,.int .i64 0,.int .i64 0,.int .i64 0,.int .i64 0]) ?_ 0 _ rfl
  repeat (first | (with_reducible refine aG ?_ _) | (with_reducible refine aC ?_ _) | (with_reducible refine dU ?_ (by simp) _))
  exact bU (aC (iU _ _) _) hb
 repeat (first | (with_reducible refine Below.drewN' ?_ _) | (with_reducible refine Below.setCell ?_ (by simp) _) | (with_reducible refine Below.alloc ?_ (by first | omega | (simp; omega)) _))
 exact (((Below.refl w.heap.size w).alloc (Nat.le_refl _) _).alloc (by simp) _).trans (hb.mono (by simp; omega))
theorem ab1 (w0 : Int) (h0 : 0 ≤ w0) (h1 : w0 < 4294967296) (n1 : ByteArray) (s1 c1 : Int) (r1 r2 : ByteArray) (ht : aT.f (w0 / 16777216) = some (n1,s1,c1,r1,r2,true)) (A B C : Bool) (lo hi : Int) (hh : bK.f s1 = some (A,B,C,lo,hi)) (hC : C = false) (hhi : ¬ 0 < hi) (hw : w0 % 65536 = 0) (f0 : ji (w0 / 1048576 % 16) A = true) (f1 : ji (w0 / 65536 % 16) B = false) (w : World) :
  Calls Tryz.prog 40 #[.int .u32 w0] w fun e w' => e = .returned (.tuple #[.agg #[.int .i64 0,.int .i64 0,.int .i64 0,.int .i64 0,.int .i64 0],.int .i64 61]) ∧ Below w.heap.size w w':=by
 have hu:=Tryz.underlying70
 have uh:=Tryz.underlying133
 have HT:=Lib.hid ht
 clear ht
 have HH:=Lib.hid hh
 clear hh
 subst hC
 replace hw : (w0 % 65536 == 0) = true:=beq_iff_eq.2 hw
 go_enter Tryz.func40,Tryz.ntmps40
 go_wp2_with (first | (go_at_call 83; refine (aT.calls _ _ _ _ _ _ _ _ HT.out).mono ?_; rintro e w' ⟨rfl,hb⟩; obtain ⟨hc,hf⟩:=sG hb; have hz : w.heap.size + 1 < w'.heap.size:=(by have:=hb.size; simp at this; omega); have hz0 : w.heap.size < w'.heap.size:=(by omega)) | (go_at_call 43; refine (bK.calls _ _ _ _ _ _ _ HH.out).mono ?_; rintro e w2 ⟨rfl,⟨nd,rfl⟩⟩) | (go_at_call 84; refine (fP _ _ _).mono ?_; rintro e w3 ⟨rfl,⟨Ql,rfl⟩⟩))
 refine bodyPost_ret (dw rfl _ _ w.heap.size 70 #[.int .i64 0,.int .i64 0,.int .i64 0,.int .i64 0,.int .i64 0] (0,0) _ rfl ?hbl hu rfl (by kernel_rfl)) rfl ⟨rfl,?_⟩
 case hbl =>
  repeat (first | (with_reducible refine aG ?_ _) | (with_reducible refine aC ?_ _))
  with_reducible refine bg (cs:=#[.int .i64 0,.int .i64 0,.int .i64 0,.int .i64 0,.int .i64 0]) ?_ 4 _ rfl
  with_reducible refine bg (cs:=#[.int .i64 0,.int .i64 0,.int .i64 0,.int .i64 0,.int .i64 0]) ?_ 3 _ rfl
  with_reducible refine bg (cs:=#[.int .i64 0,.int .i64 0,.int .i64 0,.int .i64 0,.int .i64 0]) ?_ 2 _ rfl
  with_reducible refine bg (cs:=#[.int .i64 0,.int .i64 0,.int .i64 0,.int .i64 0,.int .i64 0]) ?_ 1 _ rfl
  with_reducible refine bg (cs:=#[.int .i64 0,.int .i64 0,.int .i64 0,.int .i64 0,.int .i64 0]) ?_ 0 _ rfl
  repeat (first | (with_reducible refine aG ?_ _) | (with_reducible refine aC ?_ _) | (with_reducible refine dU ?_ (by simp) _))
  exact bU (aC (iU _ _) _) hb
 repeat (first | (with_reducible refine Below.drewN' ?_ _) | (with_reducible refine Below.setCell ?_ (by simp) _) | (with_reducible refine Below.alloc ?_ (by first | omega | (simp; omega)) _))
 exact (((Below.refl w.heap.size w).alloc (Nat.le_refl _) _).alloc (by simp) _).trans (hb.mono (by simp; omega))
theorem ab2 (w0 : Int) (h0 : 0 ≤ w0) (h1 : w0 < 4294967296) (n1 : ByteArray) (s1 c1 : Int) (r1 r2 : ByteArray) (ht : aT.f (w0 / 16777216) = some (n1,s1,c1,r1,r2,true)) (A B C : Bool) (lo hi : Int) (hh : bK.f s1 = some (A,B,C,lo,hi)) (hC : C = false) (hhi : ¬ 0 < hi) (hw : w0 % 65536 = 0) (f0 : ji (w0 / 1048576 % 16) A = true) (f1 : ji (w0 / 65536 % 16) B = true) (f2 : ji 0 false = true) (w : World) :
  Calls Tryz.prog 40 #[.int .u32 w0] w fun e w' => e = .returned (.tuple #[.agg #[.int .i64 (w0 / 16777216),.int .i64 (w0 / 1048576 % 16),.int .i64 (w0 / 65536 % 16),.int .i64 0,.int .i64 0],.int .i64 0]) ∧ Below w.heap.size w w':=by
 have hu:=Tryz.underlying70
 have uh:=Tryz.underlying133
 have HT:=Lib.hid ht
 clear ht
 have HH:=Lib.hid hh
 clear hh
 subst hC
 replace hw : (w0 % 65536 == 0) = true:=beq_iff_eq.2 hw
 go_enter Tryz.func40,Tryz.ntmps40
 go_wp2_with (first | (go_at_call 83; refine (aT.calls _ _ _ _ _ _ _ _ HT.out).mono ?_; rintro e w' ⟨rfl,hb⟩; obtain ⟨hc,hf⟩:=sG hb; have hz : w.heap.size + 1 < w'.heap.size:=(by have:=hb.size; simp at this; omega); have hz0 : w.heap.size < w'.heap.size:=(by omega)) | (go_at_call 43; refine (bK.calls _ _ _ _ _ _ _ HH.out).mono ?_; rintro e w2 ⟨rfl,⟨nd,rfl⟩⟩) | (go_at_call 84; refine (fP _ _ _).mono ?_; rintro e w3 ⟨rfl,⟨Ql,rfl⟩⟩))
 refine bodyPost_ret (dw rfl _ _ w.heap.size 70 #[.int .i64 (w0 / 16777216),.int .i64 (w0 / 1048576 % 16),.int .i64 (w0 / 65536 % 16),.int .i64 0,.int .i64 0] (0,0) _ rfl ?hbl hu rfl (by kernel_rfl)) rfl ⟨rfl,?_⟩
 case hbl =>
  repeat (first | (with_reducible refine aG ?_ _) | (with_reducible refine aC ?_ _))
  with_reducible refine bg (cs:=#[.int .i64 (w0 / 16777216),.int .i64 (w0 / 1048576 % 16),.int .i64 (w0 / 65536 % 16),.int .i64 0,.int .i64 0]) ?_ 4 _ rfl
  with_reducible refine bg (cs:=#[.int .i64 (w0 / 16777216),.int .i64 (w0 / 1048576 % 16),.int .i64 (w0 / 65536 % 16),.int .i64 0,.int .i64 0]) ?_ 3 _ rfl
  with_reducible refine bg (cs:=#[.int .i64 (w0 / 16777216),.int .i64 (w0 / 1048576 % 16),.int .i64 0,.int .i64 0,.int .i64 0]) ?_ 2 _ rfl
  with_reducible refine bg (cs:=#[.int .i64 (w0 / 16777216),.int .i64 0,.int .i64 0,.int .i64 0,.int .i64 0]) ?_ 1 _ rfl
  with_reducible refine bg (cs:=#[.int .i64 0,.int .i64 0,.int .i64 0,.int .i64 0,.int .i64 0]) ?_ 0 _ rfl
  repeat (first | (with_reducible refine aG ?_ _) | (with_reducible refine aC ?_ _) | (with_reducible refine dU ?_ (by simp) _))
  exact bU (aC (iU _ _) _) hb
 repeat (first | (with_reducible refine Below.drewN' ?_ _) | (with_reducible refine Below.setCell ?_ (by simp) _) | (with_reducible refine Below.alloc ?_ (by first | omega | (simp; omega)) _))
 exact (((Below.refl w.heap.size w).alloc (Nat.le_refl _) _).alloc (by simp) _).trans (hb.mono (by simp; omega))
theorem YO (w0 : Int) (h0 : 0 ≤ w0) (h1 : w0 < 4294967296) (n1 : ByteArray) (s1 c1 : Int) (r1 r2 : ByteArray) (ht : aT.f (w0 / 16777216) = some (n1,s1,c1,r1,r2,true)) (A B C : Bool) (lo hi : Int) (hh : bK.f s1 = some (A,B,C,lo,hi)) (hC : C = false) (hhi : ¬ 0 < hi) (hw : ¬ w0 % 65536 = 0) (w : World) :
  Calls Tryz.prog 40 #[.int .u32 w0] w fun e w' => e = .returned (.tuple #[.agg #[.int .i64 0,.int .i64 0,.int .i64 0,.int .i64 0,.int .i64 0],.int .i64 61]) ∧ Below w.heap.size w w':=by
 have hu:=Tryz.underlying70
 have uh:=Tryz.underlying133
 have HT:=Lib.hid ht
 clear ht
 have HH:=Lib.hid hh
 clear hh
 subst hC
 replace hw : (w0 % 65536 == 0) = false:=beq_eq_false_iff_ne.2 hw
 go_enter Tryz.func40,Tryz.ntmps40
 go_wp2_with (first | (go_at_call 83; refine (aT.calls _ _ _ _ _ _ _ _ HT.out).mono ?_; rintro e w' ⟨rfl,hb⟩; obtain ⟨hc,hf⟩:=sG hb; have hz : w.heap.size + 1 < w'.heap.size:=(by have:=hb.size; simp at this; omega); have hz0 : w.heap.size < w'.heap.size:=(by omega)) | (go_at_call 43; refine (bK.calls _ _ _ _ _ _ _ HH.out).mono ?_; rintro e w2 ⟨rfl,⟨nd,rfl⟩⟩) | (go_at_call 84; refine (fP _ _ _).mono ?_; rintro e w3 ⟨rfl,⟨Ql,rfl⟩⟩))
 refine bodyPost_ret (dw rfl _ _ w.heap.size 70 #[.int .i64 0,.int .i64 0,.int .i64 0,.int .i64 0,.int .i64 0] (0,0) _ rfl ?hbl hu rfl (by kernel_rfl)) rfl ⟨rfl,?_⟩
 case hbl =>
  repeat (first | (with_reducible refine aG ?_ _) | (with_reducible refine aC ?_ _))
  with_reducible refine bg (cs:=#[.int .i64 0,.int .i64 0,.int .i64 0,.int .i64 0,.int .i64 0]) ?_ 4 _ rfl
  with_reducible refine bg (cs:=#[.int .i64 0,.int .i64 0,.int .i64 0,.int .i64 0,.int .i64 0]) ?_ 3 _ rfl
  with_reducible refine bg (cs:=#[.int .i64 0,.int .i64 0,.int .i64 0,.int .i64 0,.int .i64 0]) ?_ 2 _ rfl
  with_reducible refine bg (cs:=#[.int .i64 0,.int .i64 0,.int .i64 0,.int .i64 0,.int .i64 0]) ?_ 1 _ rfl
  with_reducible refine bg (cs:=#[.int .i64 0,.int .i64 0,.int .i64 0,.int .i64 0,.int .i64 0]) ?_ 0 _ rfl
  repeat (first | (with_reducible refine aG ?_ _) | (with_reducible refine aC ?_ _) | (with_reducible refine dU ?_ (by simp) _))
  exact bU (aC (iU _ _) _) hb
 repeat (first | (with_reducible refine Below.drewN' ?_ _) | (with_reducible refine Below.setCell ?_ (by simp) _) | (with_reducible refine Below.alloc ?_ (by first | omega | (simp; omega)) _))
 exact (((Below.refl w.heap.size w).alloc (Nat.le_refl _) _).alloc (by simp) _).trans (hb.mono (by simp; omega))
def bad : Option (Int × Int × Int × Int × Int × Int):=some (0,0,0,0,0,61)
def fields (o a b c m : Int) (A B C : Bool) : Option (Int × Int × Int × Int × Int × Int):=if ji a A = true then (if ji b B = true then (if ji c C = true then some (o,a,b,c,m,0) else bad) else bad) else bad
def YN (w0 : Int) : Option (Int × Int × Int × Int × Int × Int) :=
 if 0 ≤ w0 ∧ w0 < 4294967296 then
  (aT.f (w0 / 16777216)).bind fun t =>
   if t.2.2.2.2.2 = true then (bK.f t.2.1).bind fun g =>
    if g.2.2.1 = true then fields (w0 / 16777216) (w0 / 1048576 % 16) (w0 / 65536 % 16) (w0 % 65536) 0 g.1 g.2.1 true
    else if 0 < g.2.2.2.2 then
     (if g.2.2.2.1 < 0 then (if g.2.2.2.2 < w0 % 65536 then fields (w0 / 16777216) (w0 / 1048576 % 16) (w0 / 65536 % 16) 0 (w0 % 65536 - 65536) g.1 g.2.1 false else fields (w0 / 16777216) (w0 / 1048576 % 16) (w0 / 65536 % 16) 0 (w0 % 65536) g.1 g.2.1 false)
     else fields (w0 / 16777216) (w0 / 1048576 % 16) (w0 / 65536 % 16) 0 (w0 % 65536) g.1 g.2.1 false)
    else if w0 % 65536 = 0 then fields (w0 / 16777216) (w0 / 1048576 % 16) (w0 / 65536 % 16) 0 0 g.1 g.2.1 false else bad
   else some (0,0,0,0,0,60)
 else none
theorem uN {o a b c m : Int} {A B C : Bool} {r : Int × Int × Int × Int × Int × Int} (h : fields o a b c m A B C = some r) :
  (ji a A = false ∧ r = (0,0,0,0,0,61)) ∨ (ji a A = true ∧ ji b B = false ∧ r = (0,0,0,0,0,61)) ∨ (ji a A = true ∧ ji b B = true ∧ ji c C = false ∧ r = (0,0,0,0,0,61)) ∨
   (ji a A = true ∧ ji b B = true ∧ ji c C = true ∧ r = (o,a,b,c,m,0)):=by
 unfold fields bad at h
 by_cases f0 : ji a A = true
 ·rw [if_pos f0] at h
  by_cases f1 : ji b B = true
  ·rw [if_pos f1] at h
   by_cases f2 : ji c C = true
   ·rw [if_pos f2] at h
    exact .inr (.inr (.inr ⟨f0,f1,f2,(Option.some.inj h).symm⟩))
   ·rw [if_neg f2] at h
    exact .inr (.inr (.inl ⟨f0,f1,by simpa using f2,(Option.some.inj h).symm⟩))
  ·rw [if_neg f1] at h
   exact .inr (.inl ⟨f0,by simpa using f1,(Option.some.inj h).symm⟩)
 ·rw [if_neg f0] at h
  exact .inl ⟨by simpa using f0,(Option.some.inj h).symm⟩
theorem Le (w0 r1 r2 r3 r4 r5 r6 : Int) (w : World) (h : YN w0 = some (r1,r2,r3,r4,r5,r6)) :
  Calls Tryz.prog 40 #[.int .u32 w0] w fun e w' => e = .returned (.tuple #[.agg #[.int .i64 r1,.int .i64 r2,.int .i64 r3,.int .i64 r4,.int .i64 r5],.int .i64 r6]) ∧ Below w.heap.size w w':=by
 unfold YN at h
 split at h
 ·rename_i hr
  obtain ⟨h0,h1⟩:=hr
  obtain ⟨⟨n1,s1,c1,q1,q2,ok⟩,ht,h⟩:=Option.bind_eq_some_iff.1 h
  cases ok with
  | false =>
   simp only [Bool.false_eq_true,if_false,Option.some.injEq,Prod.mk.injEq] at h
   obtain ⟨rfl,rfl,rfl,rfl,rfl,rfl⟩:=h
   exact YR w0 h0 h1 _ _ _ _ _ ht w
  | true =>
   simp only [if_true] at h
   obtain ⟨⟨A,B,C,lo,hi⟩,hh,h⟩:=Option.bind_eq_some_iff.1 h
   simp only at h
   split at h
   ·rename_i hC
    rcases uN h with ⟨f0,e⟩ | ⟨f0,f1,e⟩ | ⟨f0,f1,f2,e⟩ | ⟨f0,f1,f2,e⟩
    all_goals
     simp only [Prod.mk.injEq] at e
     obtain ⟨rfl,rfl,rfl,rfl,rfl,rfl⟩:=e
    ·exact abM w0 h0 h1 _ _ _ _ _ ht A B C lo hi hh hC f0 w
    ·exact abN w0 h0 h1 _ _ _ _ _ ht A B C lo hi hh hC f0 f1 w
    ·exact abO w0 h0 h1 _ _ _ _ _ ht A B C lo hi hh hC f0 f1 f2 w
    ·exact abP w0 h0 h1 _ _ _ _ _ ht A B C lo hi hh hC f0 f1 f2 w
   ·rename_i hC
    replace hC : C = false:=by simpa using hC
    split at h
    ·rename_i hhi
     split at h
     ·rename_i hl
      split at h
      ·rename_i hw
       rcases uN h with ⟨f0,e⟩ | ⟨f0,f1,e⟩ | ⟨f0,f1,f2,e⟩ | ⟨f0,f1,f2,e⟩
       all_goals
        simp only [Prod.mk.injEq] at e
        obtain ⟨rfl,rfl,rfl,rfl,rfl,rfl⟩:=e
       ·exact abQ w0 h0 h1 _ _ _ _ _ ht A B C lo hi hh hC hhi hl hw f0 w
       ·exact abR w0 h0 h1 _ _ _ _ _ ht A B C lo hi hh hC hhi hl hw f0 f1 w
       ·simp [ji] at f2
       ·exact abS w0 h0 h1 _ _ _ _ _ ht A B C lo hi hh hC hhi hl hw f0 f1 f2 w
      ·rename_i hw
       rcases uN h with ⟨f0,e⟩ | ⟨f0,f1,e⟩ | ⟨f0,f1,f2,e⟩ | ⟨f0,f1,f2,e⟩
       all_goals
        simp only [Prod.mk.injEq] at e
        obtain ⟨rfl,rfl,rfl,rfl,rfl,rfl⟩:=e
       ·exact abW w0 h0 h1 _ _ _ _ _ ht A B C lo hi hh hC hhi hl hw f0 w
       ·exact abX w0 h0 h1 _ _ _ _ _ ht A B C lo hi hh hC hhi hl hw f0 f1 w
       ·simp [ji] at f2
       ·exact abY w0 h0 h1 _ _ _ _ _ ht A B C lo hi hh hC hhi hl hw f0 f1 f2 w
     ·rename_i hl
      rcases uN h with ⟨f0,e⟩ | ⟨f0,f1,e⟩ | ⟨f0,f1,f2,e⟩ | ⟨f0,f1,f2,e⟩
      all_goals
       simp only [Prod.mk.injEq] at e
       obtain ⟨rfl,rfl,rfl,rfl,rfl,rfl⟩:=e
      ·exact abT w0 h0 h1 _ _ _ _ _ ht A B C lo hi hh hC hhi hl f0 w
      ·exact abU w0 h0 h1 _ _ _ _ _ ht A B C lo hi hh hC hhi hl f0 f1 w
      ·simp [ji] at f2
      ·exact abV w0 h0 h1 _ _ _ _ _ ht A B C lo hi hh hC hhi hl f0 f1 f2 w
    ·rename_i hhi
     split at h
     ·rename_i hw
      rcases uN h with ⟨f0,e⟩ | ⟨f0,f1,e⟩ | ⟨f0,f1,f2,e⟩ | ⟨f0,f1,f2,e⟩
      all_goals
       simp only [Prod.mk.injEq] at e
       obtain ⟨rfl,rfl,rfl,rfl,rfl,rfl⟩:=e
      ·exact abZ w0 h0 h1 _ _ _ _ _ ht A B C lo hi hh hC hhi hw f0 w
      ·exact ab1 w0 h0 h1 _ _ _ _ _ ht A B C lo hi hh hC hhi hw f0 f1 w
      ·simp [ji] at f2
      ·exact ab2 w0 h0 h1 _ _ _ _ _ ht A B C lo hi hh hC hhi hw f0 f1 f2 w
     ·rename_i hw
      simp only [bad,Option.some.injEq,Prod.mk.injEq] at h
      obtain ⟨rfl,rfl,rfl,rfl,rfl,rfl⟩:=h
      exact YO w0 h0 h1 _ _ _ _ _ ht A B C lo hi hh hC hhi hw w
 ·cases h
end Go.Proofs.YtdbpglhdicmhhaaGreatDoor.Qs
end
