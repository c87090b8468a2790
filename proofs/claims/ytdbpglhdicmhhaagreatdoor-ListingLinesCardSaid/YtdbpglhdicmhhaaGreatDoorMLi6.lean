import Derived.Test.YtdbpglhdicmhhaaGreatDoorProg
import Derived.Below
import Derived.Deep.Draws
import Derived.Deep.AppendLies
import Derived.Maps.AppendAt
import Derived.OwnWalk
import Derived.Laws.BytesArg
import Derived.Laws.MakeOwn
import Derived.Laws.OwnMore
import Derived.Deep.OwnRows
import Derived.Tactics
import Derived.Lib.ConvBytes
import Derived.Laws.Slices
import Derived.WalkKit
import Derived.KernelRfl
import Derived.RowKit3
import Derived.Deep.LoopGhost
import Derived.Deep.QuietTactic
import Derived.BigQuiet
import Derived.WideLaws
import Derived.Deep.DeepCutAuto
import Derived.Deep.CutBlock
import Derived.Deep.RegionHeld3
import Derived.Laws.Rows
import Derived.Lib.AppendStr
import Derived.ArgAppend
import Derived.Laws.IdiomCopy
import Derived.OrdersHeld
import Derived.Laws.BitsLemmas
import Derived.RowKit
import Derived.Test.YtdbpglhdicmhhaaGreatDoorMLi5
import Derived.Test.YtdbpglhdicmhhaaGreatDoorMLi1
import Derived.Test.YtdbpglhdicmhhaaGreatDoorMLi2
import Derived.Test.YtdbpglhdicmhhaaGreatDoorMLi3
import Derived.Test.YtdbpglhdicmhhaaGreatDoorMLi4
set_option linter.unusedVariables false
set_option linter.unusedSimpArgs false
section
theorem _root_.Go.sAz {α : Type _} {l : List α} {i : Nat} {a : α} : l.toArray.setIfInBounds i a = (l.set i a).toArray := List.setIfInBounds_toArray ..
theorem _root_.Go.sCz {α : Type _} {x : α} {l : List α} {a : α} : (x :: l).set 0 a = a :: l := List.set_cons_zero ..
theorem _root_.Go.sCs {α : Type _} {x : α} {l : List α} {i : Nat} {a : α} : (x :: l).set (i + 1) a = x :: l.set i a := List.set_cons_succ ..
namespace Go.Proofs.YtdbpglhdicmhhaaGreatDoor.GA
open Go.RowKit Go.Proofs.YtdbpglhdicmhhaaGreatDoorW.PrintWords Go.Proofs.YtdbpglhdicmhhaaGreatDoorW.PrintLast Go.Proofs.YtdbpglhdicmhhaaGreatDoorW.PrintMore
def errW : Option Int → Value
 | none => .nilIface
 | some c => .iface 175 (.int .i64 c)
theorem errW_none : errW none = .nilIface:=rfl
theorem errW_some (c : Int) : errW (some c) = .iface 175 (.int .i64 c):=rfl
theorem info3 : (Tryz.prog.info? 3).map (fun i => (i.zero,i.size,i.bytes)) = some (some (.int .i64 0),1,8):=by kernel_rfl
theorem info39 : (Tryz.prog.info? 39).map (fun i => (i.zero,i.size,i.bytes)) = some (some (.int .u32 0),1,4):=by kernel_rfl
theorem info41 : (Tryz.prog.info? 41).map (fun i => (i.zero,i.size,i.bytes)) = some (some (.agg #[(.int .i64 0),(.int .i64 0)]),2,16):=by kernel_rfl
theorem info44 : (Tryz.prog.info? 44).map (fun i => (i.zero,i.size,i.bytes)) = some (some (.agg #[(.slice none 0 0),(.bool false)]),2,32):=by kernel_rfl
theorem info46 : (Tryz.prog.info? 46).map (fun i => (i.zero,i.size,i.bytes)) = some (some (.agg #[(.bool false),(.int .i64 0),(.int .i64 0),(.int .i64 0)]),4,32):=by kernel_rfl
structure S127 where
 f0 : ByteArray
 f1 : Int
 f2 : Int
 f3 : ByteArray
 f4 : ByteArray
def z127 : S127:=⟨(⟨#[]⟩ : ByteArray),(0 : Int),(0 : Int),(⟨#[]⟩ : ByteArray),(⟨#[]⟩ : ByteArray)⟩
structure S70 where
 f0 : Int
 f1 : Int
 f2 : Int
 f3 : Int
 f4 : Int
structure S46 where
 f0 : Bool
 f1 : Int
 f2 : Int
 f3 : Int
def z46 : S46:=⟨false,(0 : Int),(0 : Int),(0 : Int)⟩
def k46 : Kd S46:=Kd.iso (Kd.pair Kd.bool (Kd.pair (Kd.int .i64) (Kd.pair (Kd.int .i64) (Kd.int .i64)))) (fun x : S46 => (x.f0,x.f1,x.f2,x.f3))
theorem k46_open {w : World} {x : S46} {cs : List Value} (h : k46.K w x cs) : cs = [.bool x.f0,.int .i64 x.f1,.int .i64 x.f2,.int .i64 x.f3]:=by
 obtain ⟨_,_,rfl,rfl,⟨_,_,rfl,rfl,⟨_,_,rfl,rfl,rfl⟩⟩⟩:=h
 exact rfl
theorem k46_mkM (w : World) (base : Nat) (ok : Nat → Prop) (x : S46)  : k46.M w base ok x [.bool x.f0,.int .i64 x.f1,.int .i64 x.f2,.int .i64 x.f3]:=⟨[.bool x.f0],[.int .i64 x.f1,.int .i64 x.f2,.int .i64 x.f3],rfl,rfl,⟨[.int .i64 x.f1],[.int .i64 x.f2,.int .i64 x.f3],rfl,rfl,⟨[.int .i64 x.f2],[.int .i64 x.f3],rfl,rfl,rfl⟩⟩⟩
def rd_T46 (xs : List S46) (i : Int) : S46:=xs.getD i.toNat z46
theorem at_T46 {w : World} {A : Option Addr} {n : Nat} {xs : List S46} (h : Kd.C k46 w A n xs) (i : Int) (h0 : 0 ≤ i) (h1 : i < n) : ∃ ad ,A = some ad ∧ w.cell? (ad.add (i.toNat * 4)) = some (.bool (rd_T46 xs i).f0) ∧ w.cell? ⟨(ad.add (i.toNat * 4)).block,(ad.add (i.toNat * 4)).off + 1,none⟩ = some (.int .i64 (rd_T46 xs i).f1) ∧ w.cell? ⟨(ad.add (i.toNat * 4)).block,(ad.add (i.toNat * 4)).off + 2,none⟩ = some (.int .i64 (rd_T46 xs i).f2) ∧ w.cell? ⟨(ad.add (i.toNat * 4)).block,(ad.add (i.toNat * 4)).off + 3,none⟩ = some (.int .i64 (rd_T46 xs i).f3):=by
 obtain ⟨ad,c,e,_,hK,hc0⟩:=Kd.C_get h z46 i h0 h1
 have hc : ∀ j u,c[j]? = some u → w.cell? (ad.add (i.toNat * 4 + j)) = some u:=hc0
 obtain rfl:=k46_open hK
 exact ⟨ad,e,hc 0 _ rfl,by rw [← add_field _ _ 1 (by omega)]; exact hc 1 _ rfl,by rw [← add_field _ _ 2 (by omega)]; exact hc 2 _ rfl,by rw [← add_field _ _ 3 (by omega)]; exact hc 3 _ rfl⟩
structure S44 where
 f0 : (List S46)
 f1 : Bool
def z44 : S44:=⟨([] : List S46),false⟩
def k44 : Kd S44:=Kd.iso (Kd.pair (Kd.slice 46 k46) Kd.bool) (fun x : S44 => (x.f0,x.f1))
theorem k44_open {w : World} {x : S44} {cs : List Value} (h : k44.K w x cs) : ∃ A0 c0,cs = [.slice A0 x.f0.length c0,.bool x.f1] ∧ x.f0.length ≤ c0 ∧ k46.C w A0 x.f0.length x.f0:=by
 obtain ⟨_,_,rfl,⟨A0,c0,rfl,l0,g0⟩,rfl⟩:=h
 exact ⟨A0,c0,rfl,l0,g0⟩
theorem k44_mkM (w : World) (base : Nat) (ok : Nat → Prop) (x : S44) {v0 : Value} (g0 : k46.R 46 w base ok v0 x.f0) : k44.M w base ok x [v0,.bool x.f1]:=⟨[v0],[.bool x.f1],rfl,⟨v0,rfl,g0⟩,rfl⟩
def rd_T44 (xs : List S44) (i : Int) : S44:=xs.getD i.toNat z44
theorem at_T44 {w : World} {A : Option Addr} {n : Nat} {xs : List S44} (h : Kd.C k44 w A n xs) (i : Int) (h0 : 0 ≤ i) (h1 : i < n) : ∃ ad A0 c0,A = some ad ∧ w.cell? (ad.add (i.toNat * 2)) = some (.slice A0 (rd_T44 xs i).f0.length c0) ∧ w.cell? ⟨(ad.add (i.toNat * 2)).block,(ad.add (i.toNat * 2)).off + 1,none⟩ = some (.bool (rd_T44 xs i).f1) ∧ (rd_T44 xs i).f0.length ≤ c0 ∧ k46.C w A0 (rd_T44 xs i).f0.length (rd_T44 xs i).f0:=by
 obtain ⟨ad,c,e,_,hK,hc0⟩:=Kd.C_get h z44 i h0 h1
 have hc : ∀ j u,c[j]? = some u → w.cell? (ad.add (i.toNat * 2 + j)) = some u:=hc0
 obtain ⟨A0,c0,rfl,l0,g0⟩:=k44_open hK
 exact ⟨ad,A0,c0,e,hc 0 _ rfl,by rw [← add_field _ _ 1 (by omega)]; exact hc 1 _ rfl,l0,g0⟩
structure S41 where
 f0 : Int
 f1 : Int
def z41 : S41:=⟨(0 : Int),(0 : Int)⟩
def k41 : Kd S41:=Kd.iso (Kd.pair (Kd.int .i64) (Kd.int .i64)) (fun x : S41 => (x.f0,x.f1))
theorem k41_open {w : World} {x : S41} {cs : List Value} (h : k41.K w x cs) : cs = [.int .i64 x.f0,.int .i64 x.f1]:=by
 obtain ⟨_,_,rfl,rfl,rfl⟩:=h
 exact rfl
theorem k41_mkM (w : World) (base : Nat) (ok : Nat → Prop) (x : S41)  : k41.M w base ok x [.int .i64 x.f0,.int .i64 x.f1]:=⟨[.int .i64 x.f0],[.int .i64 x.f1],rfl,rfl,rfl⟩
def rd_T41 (xs : List S41) (i : Int) : S41:=xs.getD i.toNat z41
theorem at_T41 {w : World} {A : Option Addr} {n : Nat} {xs : List S41} (h : Kd.C k41 w A n xs) (i : Int) (h0 : 0 ≤ i) (h1 : i < n) : ∃ ad ,A = some ad ∧ w.cell? (ad.add (i.toNat * 2)) = some (.int .i64 (rd_T41 xs i).f0) ∧ w.cell? ⟨(ad.add (i.toNat * 2)).block,(ad.add (i.toNat * 2)).off + 1,none⟩ = some (.int .i64 (rd_T41 xs i).f1):=by
 obtain ⟨ad,c,e,_,hK,hc0⟩:=Kd.C_get h z41 i h0 h1
 have hc : ∀ j u,c[j]? = some u → w.cell? (ad.add (i.toNat * 2 + j)) = some u:=hc0
 obtain rfl:=k41_open hK
 exact ⟨ad,e,hc 0 _ rfl,by rw [← add_field _ _ 1 (by omega)]; exact hc 1 _ rfl⟩
end Go.Proofs.YtdbpglhdicmhhaaGreatDoor.GA
end

section
namespace Go.Proofs.YtdbpglhdicmhhaaGreatDoor.GA
open Go.RowKit Go.Proofs.YtdbpglhdicmhhaaGreatDoorW.PrintWords Go.Proofs.YtdbpglhdicmhhaaGreatDoorW.PrintLast Go.Proofs.YtdbpglhdicmhhaaGreatDoorW.PrintMore
def word_find.f (a0 : Int) : Option (ByteArray × Int × Int × ByteArray × ByteArray × Int) :=
 if 1 ≤ a0 ∧ a0 ≤ 58 then some ((Hfind.rowAt (a0 - 1).toNat).1,(Hfind.rowAt (a0 - 1).toNat).2.1,(Hfind.rowAt (a0 - 1).toNat).2.2.1,(Hfind.rowAt (a0 - 1).toNat).2.2.2.1,(Hfind.rowAt (a0 - 1).toNat).2.2.2.2,0)
 else some (⟨#[]⟩,0,0,⟨#[]⟩,⟨#[]⟩,60)
set_option maxHeartbeats 8000000 in
set_option maxRecDepth 100000 in
theorem word_find.calls (a0 : Int) (r1 : ByteArray) (r2 : Int) (r3 : Int) (r4 : ByteArray) (r5 : ByteArray) (r6 : Int) (w : World) (h : word_find.f a0 = some (r1,r2,r3,r4,r5,r6)) :
  Calls Tryz.prog 80 #[.int .i64 a0] w fun e w' => e = .returned (.tuple #[.agg #[.string r1,.int .i64 r2,.int .i64 r3,.string r4,.string r5],.int .i64 r6]) ∧ Below w.heap.size w w':=by
 unfold word_find.f at h
 split at h
 ·rename_i hr
  obtain ⟨k,hk⟩ : ∃ k : Nat,a0 - 1 = (k : Int):=⟨(a0 - 1).toNat,by omega⟩
  obtain rfl : a0 = (k : Int) + 1:=by omega
  rw [hk,Int.toNat_natCast] at h
  simp only [Option.some.injEq,Prod.mk.injEq] at h
  obtain ⟨rfl,rfl,rfl,rfl,rfl,rfl⟩:=h
  exact Hfind.find_in k (by omega) w
 ·rename_i hr
  simp only [Option.some.injEq,Prod.mk.injEq] at h
  obtain ⟨rfl,rfl,rfl,rfl,rfl,rfl⟩:=h
  exact Hfind.find_out a0 (by omega) w
end Go.Proofs.YtdbpglhdicmhhaaGreatDoor.GA
end

section
namespace Go.Proofs.YtdbpglhdicmhhaaGreatDoor.GA
open Go.RowKit Go.Proofs.YtdbpglhdicmhhaaGreatDoorW.PrintWords Go.Proofs.YtdbpglhdicmhhaaGreatDoorW.PrintLast Go.Proofs.YtdbpglhdicmhhaaGreatDoorW.PrintMore
def word_fits.f (a0_0 : Int) (a0_1 : Int) (a0_2 : Int) (a0_3 : Int) (a0_4 : Int) (a1 : Int) : Option (Bool):=some (Hfits.fitsB a0_1 a0_2 a0_3 a0_4 a1)
set_option maxHeartbeats 8000000 in
set_option maxRecDepth 100000 in
theorem word_fits.calls (a0_0 : Int) (a0_1 : Int) (a0_2 : Int) (a0_3 : Int) (a0_4 : Int) (a1 : Int) (r : Bool) (w : World) (h : word_fits.f a0_0 a0_1 a0_2 a0_3 a0_4 a1 = some r) :
  Calls Tryz.prog 81 #[.agg #[.int .i64 a0_0,.int .i64 a0_1,.int .i64 a0_2,.int .i64 a0_3,.int .i64 a0_4],.int .i64 a1] w fun e w' => e = .returned (.bool r) ∧ Below w.heap.size w w':=by
 obtain rfl:=Option.some.inj h
 by_cases h0 : a1 = 0
 ·subst h0; exact Hfits.fits0 a0_0 a0_1 a0_2 a0_3 a0_4 w
 by_cases h1 : a1 = 1
 ·subst h1; exact (Hfits.fits1 a0_0 a0_1 a0_2 a0_3 a0_4 w)
 by_cases h2 : a1 = 2
 ·subst h2; exact (Hfits.fits2 a0_0 a0_1 a0_2 a0_3 a0_4 w)
 by_cases h3 : a1 = 3
 ·subst h3; exact (Hfits.fits3 a0_0 a0_1 a0_2 a0_3 a0_4 w)
 by_cases h4 : a1 = 4
 ·subst h4; exact (Hfits.fits4 a0_0 a0_1 a0_2 a0_3 a0_4 w)
 by_cases h6 : a1 = 6
 ·subst h6; exact (Hfits.fits6 a0_0 a0_1 a0_2 a0_3 a0_4 w)
 have e : Hfits.fitsB a0_1 a0_2 a0_3 a0_4 a1 = (a0_2 == 0 && (a0_3 == 0 && (Hfits.reg a0_1 && (decide (0 ≤ a0_4) && decide (a0_4 < 65536))))):=by
  unfold Hfits.fitsB
  rw [if_neg h0,if_neg (by omega),if_neg h4,if_neg h6]
 rw [e]
 exact Hfits.fitsE a0_0 a0_1 a0_2 a0_3 a0_4 a1 ⟨h0,h1,h2,h3,h4,h6⟩ w
end Go.Proofs.YtdbpglhdicmhhaaGreatDoor.GA
end
