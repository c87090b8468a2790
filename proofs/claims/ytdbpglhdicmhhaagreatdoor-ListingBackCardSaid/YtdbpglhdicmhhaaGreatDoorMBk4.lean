import Derived.Test.YtdbpglhdicmhhaaGreatDoorProg
import Derived.Below
import Derived.Deep.Draws
import Derived.Deep.AppendLies
import Derived.Maps.AppendAt
import Derived.OwnWalk
import Derived.Laws.BytesArg
import Derived.Laws.MakeOwn
import Derived.Laws.OwnMore
import Derived.Deep.OwnRows
import Derived.Tactics
import Derived.Lib.ConvBytes
import Derived.Laws.Slices
import Derived.WalkKit
import Derived.KernelRfl
import Derived.RowKit3
import Derived.Deep.LoopGhost
import Derived.Deep.QuietTactic
import Derived.BigQuiet
import Derived.WideLaws
import Derived.Deep.DeepCutAuto
import Derived.Deep.CutBlock
import Derived.Deep.RegionHeld3
import Derived.Laws.Rows
import Derived.Lib.AppendStr
import Derived.ArgAppend
import Derived.Laws.IdiomCopy
import Derived.OrdersHeld
import Derived.Laws.BitsLemmas
import Derived.RowKit
import Derived.Test.YtdbpglhdicmhhaaGreatDoorMBk3
import Derived.Test.YtdbpglhdicmhhaaGreatDoorMBk0
import Derived.Test.YtdbpglhdicmhhaaGreatDoorMBk1
import Derived.Test.YtdbpglhdicmhhaaGreatDoorMBk2
import Derived.Lib.ItoaMem
import Derived.Lib.ItoaLen
import Derived.Lib.AtoiAll
import Derived.Lib.ParseIntB
import Derived.Lib.SplitLaws
import Derived.Lib.Strings
set_option linter.unusedVariables false
set_option linter.unusedSimpArgs false
section
theorem _root_.Go.sAz {α : Type _} {l : List α} {i : Nat} {a : α} : l.toArray.setIfInBounds i a = (l.set i a).toArray := List.setIfInBounds_toArray ..
theorem _root_.Go.sCz {α : Type _} {x : α} {l : List α} {a : α} : (x :: l).set 0 a = a :: l := List.set_cons_zero ..
theorem _root_.Go.sCs {α : Type _} {x : α} {l : List α} {i : Nat} {a : α} : (x :: l).set (i + 1) a = x :: l.set i a := List.set_cons_succ ..
namespace Go.Proofs.YtdbpglhdicmhhaaGreatDoor.GA
open Go.RowKit Go.Proofs.YtdbpglhdicmhhaaGreatDoorW.PrintWords Go.Proofs.YtdbpglhdicmhhaaGreatDoorW.PrintLast Go.Proofs.YtdbpglhdicmhhaaGreatDoorW.PrintMore
def errW : Option Int → Value
 | none => .nilIface
 | some c => .iface 175 (.int .i64 c)
theorem errW_none : errW none = .nilIface:=rfl
theorem errW_some (c : Int) : errW (some c) = .iface 175 (.int .i64 c):=rfl
theorem info3 : (Tryz.prog.info? 3).map (fun i => (i.zero,i.size,i.bytes)) = some (some (.int .i64 0),1,8):=by kernel_rfl
structure S127 where
 f0 : ByteArray
 f1 : Int
 f2 : Int
 f3 : ByteArray
 f4 : ByteArray
def z127 : S127:=⟨(⟨#[]⟩ : ByteArray),(0 : Int),(0 : Int),(⟨#[]⟩ : ByteArray),(⟨#[]⟩ : ByteArray)⟩
structure S70 where
 f0 : Int
 f1 : Int
 f2 : Int
 f3 : Int
 f4 : Int
def z70 : S70:=⟨(0 : Int),(0 : Int),(0 : Int),(0 : Int),(0 : Int)⟩
structure S46 where
 f0 : Bool
 f1 : Int
 f2 : Int
 f3 : Int
def z46 : S46:=⟨false,(0 : Int),(0 : Int),(0 : Int)⟩
def k46 : Kd S46:=Kd.iso (Kd.pair Kd.bool (Kd.pair (Kd.int .i64) (Kd.pair (Kd.int .i64) (Kd.int .i64)))) (fun x : S46 => (x.f0,x.f1,x.f2,x.f3))
theorem k46_open {w : World} {x : S46} {cs : List Value} (h : k46.K w x cs) : cs = [.bool x.f0,.int .i64 x.f1,.int .i64 x.f2,.int .i64 x.f3]:=by
 obtain ⟨_,_,rfl,rfl,⟨_,_,rfl,rfl,⟨_,_,rfl,rfl,rfl⟩⟩⟩:=h
 exact rfl
theorem k46_mk (w : World) (x : S46)  : k46.K w x [.bool x.f0,.int .i64 x.f1,.int .i64 x.f2,.int .i64 x.f3]:=⟨[.bool x.f0],[.int .i64 x.f1,.int .i64 x.f2,.int .i64 x.f3],rfl,rfl,⟨[.int .i64 x.f1],[.int .i64 x.f2,.int .i64 x.f3],rfl,rfl,⟨[.int .i64 x.f2],[.int .i64 x.f3],rfl,rfl,rfl⟩⟩⟩
def rd_T46 (xs : List S46) (i : Int) : S46:=xs.getD i.toNat z46
theorem at_T46 {w : World} {A : Option Addr} {n : Nat} {xs : List S46} (h : Kd.C k46 w A n xs) (i : Int) (h0 : 0 ≤ i) (h1 : i < n) : ∃ ad ,A = some ad ∧ w.cell? (ad.add (i.toNat * 4)) = some (.bool (rd_T46 xs i).f0) ∧ w.cell? ⟨(ad.add (i.toNat * 4)).block,(ad.add (i.toNat * 4)).off + 1,none⟩ = some (.int .i64 (rd_T46 xs i).f1) ∧ w.cell? ⟨(ad.add (i.toNat * 4)).block,(ad.add (i.toNat * 4)).off + 2,none⟩ = some (.int .i64 (rd_T46 xs i).f2) ∧ w.cell? ⟨(ad.add (i.toNat * 4)).block,(ad.add (i.toNat * 4)).off + 3,none⟩ = some (.int .i64 (rd_T46 xs i).f3):=by
 obtain ⟨ad,c,e,_,hK,hc0⟩:=Kd.C_get h z46 i h0 h1
 have hc : ∀ j u,c[j]? = some u → w.cell? (ad.add (i.toNat * 4 + j)) = some u:=hc0
 obtain rfl:=k46_open hK
 exact ⟨ad,e,hc 0 _ rfl,by rw [← add_field _ _ 1 (by omega)]; exact hc 1 _ rfl,by rw [← add_field _ _ 2 (by omega)]; exact hc 2 _ rfl,by rw [← add_field _ _ 3 (by omega)]; exact hc 3 _ rfl⟩
structure S44 where
 f0 : (List S46)
 f1 : Bool
def z44 : S44:=⟨([] : List S46),false⟩
def k44 : Kd S44:=Kd.iso (Kd.pair (Kd.slice 46 k46) Kd.bool) (fun x : S44 => (x.f0,x.f1))
theorem k44_open {w : World} {x : S44} {cs : List Value} (h : k44.K w x cs) : ∃ A0 c0,cs = [.slice A0 x.f0.length c0,.bool x.f1] ∧ x.f0.length ≤ c0 ∧ k46.C w A0 x.f0.length x.f0:=by
 obtain ⟨_,_,rfl,⟨A0,c0,rfl,l0,g0⟩,rfl⟩:=h
 exact ⟨A0,c0,rfl,l0,g0⟩
theorem k44_mk (w : World) (x : S44) {A0 : Option Addr} {c0 : Nat} (l0 : x.f0.length ≤ c0) (g0 : k46.C w A0 x.f0.length x.f0) : k44.K w x [.slice A0 x.f0.length c0,.bool x.f1]:=⟨[.slice A0 x.f0.length c0],[.bool x.f1],rfl,⟨A0,c0,rfl,l0,g0⟩,rfl⟩
def rd_T44 (xs : List S44) (i : Int) : S44:=xs.getD i.toNat z44
theorem at_T44 {w : World} {A : Option Addr} {n : Nat} {xs : List S44} (h : Kd.C k44 w A n xs) (i : Int) (h0 : 0 ≤ i) (h1 : i < n) : ∃ ad A0 c0,A = some ad ∧ w.cell? (ad.add (i.toNat * 2)) = some (.slice A0 (rd_T44 xs i).f0.length c0) ∧ w.cell? ⟨(ad.add (i.toNat * 2)).block,(ad.add (i.toNat * 2)).off + 1,none⟩ = some (.bool (rd_T44 xs i).f1) ∧ (rd_T44 xs i).f0.length ≤ c0 ∧ k46.C w A0 (rd_T44 xs i).f0.length (rd_T44 xs i).f0:=by
 obtain ⟨ad,c,e,_,hK,hc0⟩:=Kd.C_get h z44 i h0 h1
 have hc : ∀ j u,c[j]? = some u → w.cell? (ad.add (i.toNat * 2 + j)) = some u:=hc0
 obtain ⟨A0,c0,rfl,l0,g0⟩:=k44_open hK
 exact ⟨ad,A0,c0,e,hc 0 _ rfl,by rw [← add_field _ _ 1 (by omega)]; exact hc 1 _ rfl,l0,g0⟩
structure S41 where
 f0 : Int
 f1 : Int
def z41 : S41:=⟨(0 : Int),(0 : Int)⟩
def k41 : Kd S41:=Kd.iso (Kd.pair (Kd.int .i64) (Kd.int .i64)) (fun x : S41 => (x.f0,x.f1))
theorem k41_open {w : World} {x : S41} {cs : List Value} (h : k41.K w x cs) : cs = [.int .i64 x.f0,.int .i64 x.f1]:=by
 obtain ⟨_,_,rfl,rfl,rfl⟩:=h
 exact rfl
theorem k41_mk (w : World) (x : S41)  : k41.K w x [.int .i64 x.f0,.int .i64 x.f1]:=⟨[.int .i64 x.f0],[.int .i64 x.f1],rfl,rfl,rfl⟩
def rd_T41 (xs : List S41) (i : Int) : S41:=xs.getD i.toNat z41
theorem at_T41 {w : World} {A : Option Addr} {n : Nat} {xs : List S41} (h : Kd.C k41 w A n xs) (i : Int) (h0 : 0 ≤ i) (h1 : i < n) : ∃ ad ,A = some ad ∧ w.cell? (ad.add (i.toNat * 2)) = some (.int .i64 (rd_T41 xs i).f0) ∧ w.cell? ⟨(ad.add (i.toNat * 2)).block,(ad.add (i.toNat * 2)).off + 1,none⟩ = some (.int .i64 (rd_T41 xs i).f1):=by
 obtain ⟨ad,c,e,_,hK,hc0⟩:=Kd.C_get h z41 i h0 h1
 have hc : ∀ j u,c[j]? = some u → w.cell? (ad.add (i.toNat * 2 + j)) = some u:=hc0
 obtain rfl:=k41_open hK
 exact ⟨ad,e,hc 0 _ rfl,by rw [← add_field _ _ 1 (by omega)]; exact hc 1 _ rfl⟩
end Go.Proofs.YtdbpglhdicmhhaaGreatDoor.GA
end

section
namespace Go.Proofs.YtdbpglhdicmhhaaGreatDoor.GA
open Go.RowKit Go.Proofs.YtdbpglhdicmhhaaGreatDoorW.PrintWords Go.Proofs.YtdbpglhdicmhhaaGreatDoorW.PrintLast Go.Proofs.YtdbpglhdicmhhaaGreatDoorW.PrintMore
end Go.Proofs.YtdbpglhdicmhhaaGreatDoor.GA
end

section
namespace Go.Proofs.YtdbpglhdicmhhaaGreatDoor.Q
open Go.RowKit Go.Proofs.YtdbpglhdicmhhaaGreatDoor.GA Go.Proofs.YtdbpglhdicmhhaaGreatDoorW.PrintWords Go.Proofs.YtdbpglhdicmhhaaGreatDoorW.PrintLast Go.Proofs.YtdbpglhdicmhhaaGreatDoorW.PrintMore
structure Mild (l0 : List Int) (l1 : List S41) (l2 : List S44) : Prop where
 code : l0.length < 35184372088832
 funcs : l1.length < 8796093022208
 tabs : l2.length < 4398046511104
 cases : ∀ t ∈ l2,t.f0.length < 4398046511104
section
variable {l0 : List Int} {l1 : List S41} {l2 : List S44} (M : Mild l0 l1 l2)
include M
end
end Go.Proofs.YtdbpglhdicmhhaaGreatDoor.Q
end

section
namespace Go.Proofs.YtdbpglhdicmhhaaGreatDoor.Kinds
open Go.RowKit Go.Proofs.YtdbpglhdicmhhaaGreatDoorW.PrintWords Go.Proofs.YtdbpglhdicmhhaaGreatDoor.Opn Go.Proofs.YtdbpglhdicmhhaaGreatDoor.GA
theorem o3 : Opens Tryz.prog 3 (Kd.int .i64) (GInt .i64):=opens_int Tryz.underlying3 (by kernel_rfl)
theorem o4 : Opens Tryz.prog 4 Kd.bool (fun _ _ => True):=opens_bool Tryz.underlying4 (by kernel_rfl)
theorem o39 : Opens Tryz.prog 39 (Kd.int .u32) (GInt .u32):=opens_int Tryz.underlying39 (by kernel_rfl)
theorem o22 : Opens Tryz.prog 22 (Kd.slice 39 (Kd.int .u32)) (GSl 4 (GInt .u32)):=opens_slice o39 Tryz.underlying22 (by kernel_rfl) (B:=4) (by kernel_rfl)
def G41 (x : S41) (n : Nat) : Prop:=GPair (GInt .i64) (GInt .i64) (x.f0,x.f1) n
theorem o41 : Opens Tryz.prog 41 k41 G41 :=
 opens_struct (seq_cons o3 (seq_one o3)) Tryz.underlying41 (by kernel_rfl) (by kernel_rfl) (by kernel_rfl) _ (fun a => ⟨a.1,a.2⟩) (fun _ => rfl)
theorem o23 : Opens Tryz.prog 23 (Kd.slice 41 k41) (GSl 16 G41):=opens_slice o41 Tryz.underlying23 (by kernel_rfl) (B:=16) (by kernel_rfl)
def G46 (x : S46) (n : Nat) : Prop:=GPair (fun _ _ => True) (GPair (GInt .i64) (GPair (GInt .i64) (GInt .i64))) (x.f0,x.f1,x.f2,x.f3) n
theorem o46 : Opens Tryz.prog 46 k46 G46 :=
 opens_struct (seq_cons o4 (seq_cons o3 (seq_cons o3 (seq_one o3)))) Tryz.underlying46 (by kernel_rfl) (by kernel_rfl) (by kernel_rfl) _ (fun a => ⟨a.1,a.2.1,a.2.2.1,a.2.2.2⟩) (fun _ => rfl)
theorem o42 : Opens Tryz.prog 42 (Kd.slice 46 k46) (GSl 32 G46):=opens_slice o46 Tryz.underlying42 (by kernel_rfl) (B:=32) (by kernel_rfl)
def G44 (x : S44) (n : Nat) : Prop:=GPair (GSl 32 G46) (fun _ _ => True) (x.f0,x.f1) n
theorem o44 : Opens Tryz.prog 44 k44 G44 :=
 opens_struct (seq_cons o42 (seq_one o4)) Tryz.underlying44 (by kernel_rfl) (by kernel_rfl) (by kernel_rfl) _ (fun a => ⟨a.1,a.2⟩) (fun _ => rfl)
theorem o24 : Opens Tryz.prog 24 (Kd.slice 44 k44) (GSl 32 G44):=opens_slice o44 Tryz.underlying24 (by kernel_rfl) (B:=32) (by kernel_rfl)
structure S26 where
 code : List Int
 funcs : List S41
 tabs : List S44
def k26 : Kd S26:=Kd.iso (Kd.pair (Kd.slice 39 (Kd.int .u32)) (Kd.pair (Kd.slice 41 k41) (Kd.slice 44 k44))) (fun x : S26 => (x.code,x.funcs,x.tabs))
theorem k26_open {w : World} {x : S26} {cs : List Value} (h : k26.K w x cs) : ∃ A0 c0 A1 c1 A2 c2,cs = [.slice A0 x.code.length c0,.slice A1 x.funcs.length c1,.slice A2 x.tabs.length c2] ∧ x.code.length ≤ c0 ∧ (Kd.int .u32).C w A0 x.code.length x.code ∧ x.funcs.length ≤ c1 ∧ k41.C w A1 x.funcs.length x.funcs ∧ x.tabs.length ≤ c2 ∧ k44.C w A2 x.tabs.length x.tabs:=by
 obtain ⟨_,_,rfl,⟨A0,c0,rfl,h0,h1⟩,⟨_,_,rfl,⟨A1,c1,rfl,h2,h3⟩,⟨A2,c2,rfl,h4,h5⟩⟩⟩:=h
 exact ⟨A0,c0,A1,c1,A2,c2,rfl,h0,h1,h2,h3,h4,h5⟩
def G26 (x : S26) (n : Nat) : Prop:=GPair (GSl 4 (GInt .u32)) (GPair (GSl 16 G41) (GSl 32 G44)) (x.code,x.funcs,x.tabs) n
theorem o26 : Opens Tryz.prog 26 k26 G26 :=
 opens_struct (seq_cons o22 (seq_cons o23 (seq_one o24))) Tryz.underlying26 (by kernel_rfl) (by kernel_rfl) (by kernel_rfl) _ (fun a => ⟨a.1,a.2.1,a.2.2⟩) (fun _ => rfl)
theorem wf_u32 {n : Int} (h : (Lit.int IntKind.u32 n).wf = true) : 0 ≤ n ∧ n < 4294967296:=by
 unfold Lit.wf at h
 rw [Bool.and_eq_true] at h
 have a:=of_decide_eq_true h.1
 have b:=of_decide_eq_true h.2
 rw [show IntKind.u32.min = 0 by decide] at a
 rw [show IntKind.u32.max = 4294967295 by decide] at b
 omega
theorem words {x : S26} {n : Nat} (h : G26 x n) : ∀ y ∈ x.code,0 ≤ y ∧ y < 4294967296:=fun y hy => wf_u32 (h.1.2.2.2 y hy)
end Go.Proofs.YtdbpglhdicmhhaaGreatDoor.Kinds
end

section
namespace Go.Proofs.YtdbpglhdicmhhaaGreatDoor.Num
open Go.Lib
theorem digit_nat (d : Nat) (h : d < 10) : (UInt8.ofNat (48 + d)).toNat = 48 + d:=by
 rw [UInt8.toNat_ofNat']
 omega
theorem dec_step {u : Nat} (h : ¬ u < 10) : decDigits u = decDigits (u / 10) ++ [UInt8.ofNat (48 + u % 10)]:=by conv => lhs; rw [decDigits,dif_neg h]
theorem uint10_digits : ∀ (n u : Nat),u ≤ n → u < 18446744073709551616 → ∀ r,parseUint10 0 (decDigits u ++ r) = parseUint10 u r
 | n,u,hn,h2,r => by
  by_cases c : u < 10
  ·rw [decDigits_one c,List.singleton_append,parseUint10,digit_nat u c,if_pos (by omega),if_neg (by omega),if_neg (by omega)]
   congr 1
   omega
  ·obtain ⟨n,rfl⟩ : ∃ m,n = m + 1:=⟨n - 1,by omega⟩
   rw [dec_step c,List.append_assoc,List.singleton_append,uint10_digits n (u / 10) (by omega) (by omega),parseUint10,digit_nat _ (by omega),if_pos (by omega),if_neg (by omega),if_neg (by omega)]
   congr 1
   omega
theorem dec_all : ∀ (n u : Nat),u ≤ n → ∀ b ∈ decDigits u,48 ≤ b.toNat ∧ b.toNat ≤ 57
 | n,u,hn,b,hb => by
  by_cases c : u < 10
  ·rw [decDigits_one c,List.mem_singleton] at hb
   subst hb
   rw [digit_nat u c]; omega
  ·obtain ⟨n,rfl⟩ : ∃ m,n = m + 1:=⟨n - 1,by omega⟩
   rw [dec_step c,List.mem_append,List.mem_singleton] at hb
   rcases hb with hb | rfl
   ·exact dec_all n (u / 10) (by omega) b hb
   ·rw [digit_nat _ (by omega)]; omega
theorem dec_head (u : Nat) : ∃ c r,decDigits u = c :: r ∧ 48 ≤ c.toNat ∧ c.toNat ≤ 57:=by
 cases h : decDigits u with
 | nil =>
  have:=decDigits_length u
  rw [h] at this
  have h2 : 1 ≤ nDigits u:=by unfold nDigits; split <;> omega
  simp at this
  omega
 | cons c r => exact ⟨c,r,rfl,dec_all u u (Nat.le_refl _) c (by rw [h]; exact List.mem_cons_self)⟩
theorem mag_digits (u : Nat) (h : u < 18446744073709551616) : parseMag (decDigits u) = .ok u:=by
 obtain ⟨c,r,e,_⟩:=dec_head u
 unfold parseMag
 rw [if_neg (by rw [e]; simp)]
 have:=uint10_digits u u (Nat.le_refl _) h []
 rw [List.append_nil] at this
 rw [this]; rfl
theorem atoi_itoa (n : Int) (h0 : -9223372036854775808 ≤ n) (h1 : n ≤ 9223372036854775807) : atoiAll (itoa n) = .ok n:=by
 unfold itoa
 by_cases c : n < 0
 ·rw [if_pos c]
  unfold atoiAll
  have e45 : (45 : UInt8).toNat = 45:=rfl
  simp only [e45,or_true,if_true,mag_digits n.natAbs (by omega),true_and,not_true,false_and,if_false]
  rw [if_neg (by omega)]
  congr 1
  omega
 ·rw [if_neg c]
  obtain ⟨d,r,e,e1,e2⟩:=dec_head n.toNat
  have hm:=mag_digits n.toNat (by omega)
  rw [e] at hm ⊢
  unfold atoiAll
  have n3 : ¬ d.toNat = 43:=by omega
  have n2 : ¬ d.toNat = 45:=by omega
  simp only [n3,n2,or_self,if_false,hm,not_false_eq_true,true_and,false_and]
  rw [if_neg (by omega)]
  congr 1
  omega
def joinC (c : UInt8) : List (List UInt8) → List UInt8
 | [] => []
 | [p] => p
 | p :: q :: t => p ++ c :: joinC c (q :: t)
theorem index_hit1 (c : UInt8) : ∀ (p r : List UInt8),c ∉ p → index (p ++ c :: r) [c] = p.length
 | [],r,_ => by simp [index,List.isPrefixOf]
 | b :: p,r,h => by
  have hb : b ≠ c:=fun e => h (by rw [e]; exact List.mem_cons_self)
  have hp : c ∉ p:=fun e => h (List.mem_cons_of_mem _ e)
  have e : ([c] : List UInt8).isPrefixOf (b :: (p ++ c :: r)) = false:=by simp [List.isPrefixOf,Ne.symm hb]
  rw [List.cons_append,index,e,index_hit1 c p r hp]
  have : ¬ ((p.length : Int) == -1) = true:=by simp
  simp [this]
theorem index_miss1 (c : UInt8) : ∀ (p : List UInt8),c ∉ p → index p [c] = -1
 | [],_ => by simp [index]
 | b :: p,h => by
  have hb : b ≠ c:=fun e => h (by rw [e]; exact List.mem_cons_self)
  have hp : c ∉ p:=fun e => h (List.mem_cons_of_mem _ e)
  have e : ([c] : List UInt8).isPrefixOf (b :: p) = false:=by simp [List.isPrefixOf,Ne.symm hb]
  rw [index,e,index_miss1 c p hp]
  simp
theorem cut_miss1 (c : UInt8) (p : List UInt8) (h : c ∉ p) : cut p [c] = (p,[],false):=by
 unfold cut
 rw [index_miss1 c p h,if_neg (by omega)]
theorem count_join (c : UInt8) : ∀ (ps : List (List UInt8)),ps ≠ [] → (∀ p ∈ ps,c ∉ p) → (joinC c ps).count c = ps.length - 1
 | [],h,_ => absurd rfl h
 | [p],_,h => by simp [joinC,List.count_eq_zero.2 (h p (by simp))]
 | p :: q :: t,_,h => by
  rw [joinC,List.count_append,List.count_cons_self,count_join c (q :: t) (by simp) (fun x hx => h x (List.mem_cons_of_mem _ hx)),List.count_eq_zero.2 (h p List.mem_cons_self)]
  simp
theorem split_join (c : UInt8) : ∀ (ps : List (List UInt8)),ps ≠ [] → (∀ p ∈ ps,c ∉ p) → splitK [c] 0 (ps.length - 1) (joinC c ps) = ps
 | [],h,_ => absurd rfl h
 | [p],_,h => by simp [joinC,splitK]
 | p :: q :: t,_,h => by
  have hp:=h p List.mem_cons_self
  have ih:=split_join c (q :: t) (by simp) (fun x hx => h x (List.mem_cons_of_mem _ hx))
  have e : (p :: q :: t).length - 1 = ((q :: t).length - 1) + 1:=by simp
  rw [e,joinC,splitK,index_hit1 c p _ hp]
  have : ¬ ((p.length : Int) == -1) = true:=by simp
  rw [if_neg this]
  simp only [Int.toNat_natCast,Nat.add_zero,List.take_left',List.length_singleton]
  congr 1
  rw [show p ++ c :: joinC c (q :: t) = (p ++ [c]) ++ joinC c (q :: t) by simp,List.drop_left' (by simp)]
  exact ih
@[irreducible] def dstep (acc : Nat) (b : UInt8) : Nat:=acc * 10 + (b.toNat - 48)
def dfold (acc : Nat) (l : List UInt8) : Nat:=l.foldl dstep acc
theorem dfold_nil (acc : Nat) : dfold acc [] = acc:=rfl
theorem dfold_cons (acc : Nat) (b : UInt8) (r : List UInt8) : dfold acc (b :: r) = dfold (dstep acc b) r:=by unfold dfold; rw [List.foldl_cons]
theorem dfold_dec : ∀ (n u : Nat),u ≤ n → ∀ r,dfold 0 (decDigits u ++ r) = dfold u r
 | n,u,hn,r => by
  by_cases c : u < 10
  ·have e : dstep 0 (UInt8.ofNat (48 + u)) = u:=by unfold dstep; rw [digit_nat u c]; omega
   rw [decDigits_one c,List.singleton_append,dfold_cons,e]
  ·obtain ⟨n,rfl⟩ : ∃ m,n = m + 1:=⟨n - 1,by omega⟩
   have e : dstep (u / 10) (UInt8.ofNat (48 + u % 10)) = u:=by unfold dstep; rw [digit_nat _ (by omega)]; omega
   rw [dec_step c,List.append_assoc,List.singleton_append,dfold_dec n (u / 10) (by omega),dfold_cons,e]
end Go.Proofs.YtdbpglhdicmhhaaGreatDoor.Num
end

section
namespace Go.Proofs.YtdbpglhdicmhhaaGreatDoor.Q
open Go.Lib Num
def dig (b : UInt8) : Bool:=decide (48 ≤ b.toNat ∧ b.toNat ≤ 57)
def letter (b : UInt8) : Bool:=decide (b.toNat = 95 ∨ (97 ≤ b.toNat ∧ b.toNat ≤ 122) ∨ (65 ≤ b.toNat ∧ b.toNat ≤ 90))
def nameB (l : List UInt8) : Bool:=match l with
 | [] => false
 | c :: r => decide (l.length ≤ 32) && letter c && l.all (fun b => letter b || dig b)
def digsB (l : List UInt8) : Bool:=!l.isEmpty && l.all dig
def regV (l : List UInt8) : Int × Int :=
 if (hasPrefix l [114] && digsB (trimPrefix l [114]) && !(decide (1 < (trimPrefix l [114]).length) && (trimPrefix l [114]).head? == some 48)) = true then
  (match atoiAll (trimPrefix l [114]) with | .ok v => if v < 16 then (v,0) else (0,73) | _ => (0,73))
 else (0,70)
def numV (l : List UInt8) : Int × Bool :=
 if (digsB (trimPrefix l [45]) && decide ((trimPrefix l [45]).length ≤ 9)) = true then ((match atoiAll l with | .ok v => v | _ => 0),true) else (0,false)
def regsV : List Int → Int → List (List UInt8) → List Int × Int
 | acc,e,[] => (acc,e)
 | acc,e,w :: r => if (regV w).2 = 70 then ([],70) else regsV (acc ++ [(regV w).1]) (max e (regV w).2) r
theorem dig_iff (b : UInt8) : dig b = true ↔ 48 ≤ b.toNat ∧ b.toNat ≤ 57:=by unfold dig; simp
theorem dstep_eq (acc : Nat) (b : UInt8) : dstep acc b = acc * 10 + (b.toNat - 48):=by unfold dstep; rfl
theorem uint10_ok : ∀ (l : List UInt8) (acc : Nat),(∀ b ∈ l,dig b = true) → (acc + 1) * 10 ^ l.length ≤ 1000000000 → parseUint10 acc l = .ok (dfold acc l)
 | [],acc,_,_ => by rw [parseUint10,dfold_nil]
 | c :: r,acc,hd,h => by
  have hc:=(dig_iff c).1 (hd c List.mem_cons_self)
  have hp : 1 ≤ 10 ^ r.length:=Nat.one_le_pow _ _ (by omega)
  rw [List.length_cons,Nat.pow_succ] at h
  have h2 : (acc + 1) * 10 * 10 ^ r.length ≤ 1000000000:=by
   rw [Nat.mul_comm (10 ^ r.length) 10,← Nat.mul_assoc] at h; exact h
  have h3 : (acc + 1) * 10 ≤ 1000000000:=Nat.le_trans (Nat.le_mul_of_pos_right _ hp) h2
  rw [parseUint10,if_pos hc,if_neg (by omega),if_neg (by omega),dfold_cons,dstep_eq]
  refine uint10_ok r _ (fun b hb => hd b (List.mem_cons_of_mem _ hb)) (Nat.le_trans (Nat.mul_le_mul_right _ ?_) h2)
  omega
theorem digsB_iff (l : List UInt8) : digsB l = true ↔ l ≠ [] ∧ ∀ b ∈ l,dig b = true:=by
 unfold digsB
 rw [Bool.and_eq_true,List.all_eq_true]
 cases l <;> simp
theorem trimP45 (c : UInt8) (r : List UInt8) : trimPrefix (c :: r) [45] = if c = 45 then r else c :: r:=by
 unfold trimPrefix hasPrefix
 by_cases h : c = 45
 ·subst h; rfl
 ·rw [if_neg h,if_neg]
  simp [List.isPrefixOf]
  exact fun e => h e.symm
theorem atoi9 {l : List UInt8} (h : digsB (trimPrefix l [45]) = true) (hl : (trimPrefix l [45]).length ≤ 9) : ∃ v,atoiAll l = .ok v:=by
 cases l with
 | nil => simp [trimPrefix,hasPrefix,digsB] at h
 | cons c r =>
  rw [trimP45] at h hl
  obtain ⟨h0,hd⟩:=(digsB_iff _).1 h
  have key : ∀ d : List UInt8,d ≠ [] → (∀ b ∈ d,dig b = true) → d.length ≤ 9 → ∃ u,parseMag d = .ok u ∧ u < 1000000000:=by
   intro d h0 hd hl
   refine ⟨dfold 0 d,?_,?_⟩
   ·unfold parseMag
    rw [if_neg h0]
    exact uint10_ok d 0 hd (by have:=Nat.pow_le_pow_right (n:=10) (by omega) hl; omega)
   ·have : ∀ (d : List UInt8) (acc : Nat),(∀ b ∈ d,dig b = true) → dfold acc d < (acc + 1) * 10 ^ d.length:=by
     intro d
     induction d with
     | nil => intro acc _; rw [dfold_nil]; simp
     | cons c r ih =>
      intro acc hd
      have hc:=(dig_iff c).1 (hd c List.mem_cons_self)
      rw [dfold_cons,dstep_eq,List.length_cons,Nat.pow_succ,Nat.mul_comm (10 ^ r.length) 10,← Nat.mul_assoc]
      refine Nat.lt_of_lt_of_le (ih _ (fun b hb => hd b (List.mem_cons_of_mem _ hb))) (Nat.mul_le_mul_right _ ?_)
      omega
    have h1:=this d 0 hd
    have:=Nat.pow_le_pow_right (n:=10) (by omega) hl
    omega
  unfold atoiAll
  by_cases hc : c = 45
  ·rw [if_pos hc] at h0 hd hl
   obtain ⟨u,hu,hb⟩:=key r h0 hd hl
   subst hc
   simp only [show (45 : UInt8).toNat = 45 from rfl]
   simp only [or_true,if_true,hu]
   rw [if_neg (by simp),if_neg (by simp; omega)]
   exact ⟨_,rfl⟩
  ·rw [if_neg hc] at h0 hd hl
   obtain ⟨u,hu,hb⟩:=key _ h0 hd hl
   have hcd:=(dig_iff c).1 (hd c List.mem_cons_self)
   have h43 : ¬ (c.toNat = 43 ∨ c.toNat = 45):=by omega
   simp only [if_neg h43,hu]
   rw [if_neg (by omega),if_neg (by omega)]
   exact ⟨_,rfl⟩
end Go.Proofs.YtdbpglhdicmhhaaGreatDoor.Q
end

section
namespace Go.Proofs.YtdbpglhdicmhhaaGreatDoor.GA
open Go.RowKit Go.Proofs.YtdbpglhdicmhhaaGreatDoorW.PrintWords Go.Proofs.YtdbpglhdicmhhaaGreatDoorW.PrintLast Go.Proofs.YtdbpglhdicmhhaaGreatDoorW.PrintMore
def listing_letter.f (a0 : Int) : Option (Bool):=if a0 = 95 then (some true) else (if a0 ≥ 97 then (if a0 ≤ 122 then (some true) else (if a0 ≥ 65 then (some (decide (a0 ≤ 90))) else (some false))) else (if a0 ≥ 65 then (some (decide (a0 ≤ 90))) else (some false)))
set_option maxHeartbeats 8000000 in
set_option maxRecDepth 100000 in
theorem listing_letter.calls (a0 : Int) (r : Bool) (w : World) (h : listing_letter.f a0 = some r) :
  Calls Tryz.prog 116 #[.int .u8 a0] w fun e w' => e = .returned (.bool r) ∧ Drawn0 w w':=by
 have H : (if a0 = 95 then (some true) else (if a0 ≥ 97 then (if a0 ≤ 122 then (some true) else (if a0 ≥ 65 then (some (decide (a0 ≤ 90))) else (some false))) else (if a0 ≥ 65 then (some (decide (a0 ≤ 90))) else (some false)))) = some r:=h
 clear h
 by_cases c2 : a0 = 95
 ·rw [if_pos c2] at H
  have c2b0 : (a0 == 95) = true:=beq_iff_eq.mpr c2
  have c2b1 : (a0 != 95) = false:=bne_eq_false_iff_eq.mpr c2
  clear c2
  obtain rfl:=Option.some.inj H
  go_enter Tryz.func116,Tryz.ntmps116
  go_wp2
  go_ret
  exact ⟨by first | rfl | (simp; done) | (simp [*]; done),by repeat (first | exact Drawn0.refl _ | apply Drawn0.step)⟩
 ·rw [if_neg c2] at H
  have c2b0 : (a0 == 95) = false:=beq_eq_false_iff_ne.mpr c2
  have c2b1 : (a0 != 95) = true:=bne_iff_ne.mpr c2
  by_cases c3 : a0 ≥ 97
  ·rw [if_pos c3] at H
   have c3b0 : decide (97 ≤ a0) = true:=decide_eq_true c3
   clear c3
   by_cases c4 : a0 ≤ 122
   ·rw [if_pos c4] at H
    have c4b0 : decide (a0 ≤ 122) = true:=decide_eq_true c4
    clear c4
    obtain rfl:=Option.some.inj H
    go_enter Tryz.func116,Tryz.ntmps116
    go_wp2
    go_ret
    exact ⟨by first | rfl | (simp; done) | (simp [*]; done),by repeat (first | exact Drawn0.refl _ | apply Drawn0.step)⟩
   ·rw [if_neg c4] at H
    have c4b0 : decide (a0 ≤ 122) = false:=decide_eq_false c4
    clear c4
    by_cases c5 : a0 ≥ 65
    ·rw [if_pos c5] at H
     have c5b0 : decide (65 ≤ a0) = true:=decide_eq_true c5
     clear c5
     obtain rfl:=Option.some.inj H
     go_enter Tryz.func116,Tryz.ntmps116
     go_wp2
     go_ret
     exact ⟨by first | rfl | (simp; done) | (simp [*]; done),by repeat (first | exact Drawn0.refl _ | apply Drawn0.step)⟩
    ·rw [if_neg c5] at H
     have c5b0 : decide (65 ≤ a0) = false:=decide_eq_false c5
     clear c5
     obtain rfl:=Option.some.inj H
     go_enter Tryz.func116,Tryz.ntmps116
     go_wp2
     go_ret
     exact ⟨by first | rfl | (simp; done) | (simp [*]; done),by repeat (first | exact Drawn0.refl _ | apply Drawn0.step)⟩
  ·rw [if_neg c3] at H
   have c3b0 : decide (97 ≤ a0) = false:=decide_eq_false c3
   clear c3
   by_cases c6 : a0 ≥ 65
   ·rw [if_pos c6] at H
    have c6b0 : decide (65 ≤ a0) = true:=decide_eq_true c6
    clear c6
    obtain rfl:=Option.some.inj H
    go_enter Tryz.func116,Tryz.ntmps116
    go_wp2
    go_ret
    exact ⟨by first | rfl | (simp; done) | (simp [*]; done),by repeat (first | exact Drawn0.refl _ | apply Drawn0.step)⟩
   ·rw [if_neg c6] at H
    have c6b0 : decide (65 ≤ a0) = false:=decide_eq_false c6
    clear c6
    obtain rfl:=Option.some.inj H
    go_enter Tryz.func116,Tryz.ntmps116
    go_wp2
    go_ret
    exact ⟨by first | rfl | (simp; done) | (simp [*]; done),by repeat (first | exact Drawn0.refl _ | apply Drawn0.step)⟩
end Go.Proofs.YtdbpglhdicmhhaaGreatDoor.GA
end

section
namespace Go.Proofs.YtdbpglhdicmhhaaGreatDoor.GA
open Go.RowKit Go.Proofs.YtdbpglhdicmhhaaGreatDoorW.PrintWords Go.Proofs.YtdbpglhdicmhhaaGreatDoorW.PrintLast Go.Proofs.YtdbpglhdicmhhaaGreatDoorW.PrintMore
def listing_digit.f (a0 : Int) : Option (Bool):=if a0 ≥ 48 then (some (decide (a0 ≤ 57))) else (some false)
set_option maxHeartbeats 8000000 in
set_option maxRecDepth 100000 in
theorem listing_digit.calls (a0 : Int) (r : Bool) (w : World) (h : listing_digit.f a0 = some r) :
  Calls Tryz.prog 117 #[.int .u8 a0] w fun e w' => e = .returned (.bool r) ∧ Drawn0 w w':=by
 have H : (if a0 ≥ 48 then (some (decide (a0 ≤ 57))) else (some false)) = some r:=h
 clear h
 by_cases c2 : a0 ≥ 48
 ·rw [if_pos c2] at H
  have c2b0 : decide (48 ≤ a0) = true:=decide_eq_true c2
  clear c2
  obtain rfl:=Option.some.inj H
  go_enter Tryz.func117,Tryz.ntmps117
  go_wp2
  go_ret
  exact ⟨by first | rfl | (simp; done) | (simp [*]; done),by repeat (first | exact Drawn0.refl _ | apply Drawn0.step)⟩
 ·rw [if_neg c2] at H
  have c2b0 : decide (48 ≤ a0) = false:=decide_eq_false c2
  clear c2
  obtain rfl:=Option.some.inj H
  go_enter Tryz.func117,Tryz.ntmps117
  go_wp2
  go_ret
  exact ⟨by first | rfl | (simp; done) | (simp [*]; done),by repeat (first | exact Drawn0.refl _ | apply Drawn0.step)⟩
end Go.Proofs.YtdbpglhdicmhhaaGreatDoor.GA
end
