import Derived.Test.YtdbpglhdicmhhaaGreatDoorProg
import Derived.Below
import Derived.Deep.Draws
import Derived.Deep.AppendLies
import Derived.Maps.AppendAt
import Derived.OwnWalk
import Derived.Laws.BytesArg
import Derived.Laws.MakeOwn
import Derived.Laws.OwnMore
import Derived.Deep.OwnRows
import Derived.Tactics
import Derived.Lib.ConvBytes
import Derived.Laws.Slices
import Derived.WalkKit
import Derived.KernelRfl
import Derived.RowKit3
import Derived.Deep.LoopGhost
import Derived.Deep.QuietTactic
import Derived.BigQuiet
import Derived.WideLaws
import Derived.Deep.DeepCutAuto
import Derived.Deep.CutBlock
import Derived.Deep.RegionHeld3
import Derived.Laws.Rows
import Derived.Lib.AppendStr
import Derived.ArgAppend
import Derived.Laws.IdiomCopy
import Derived.OrdersHeld
import Derived.Laws.BitsLemmas
import Derived.RowKit
import Derived.Test.YtdbpglhdicmhhaaGreatDoorMPr3
import Derived.Test.YtdbpglhdicmhhaaGreatDoorMPr0
import Derived.Test.YtdbpglhdicmhhaaGreatDoorMPr1
import Derived.Test.YtdbpglhdicmhhaaGreatDoorMPr2
import Derived.Lib.ItoaMem
import Derived.Lib.ItoaLen
import Derived.Lib.AtoiAll
import Derived.Lib.ParseIntB
import Derived.Lib.SplitLaws
import Derived.Lib.Strings
set_option maxHeartbeats 8000000
set_option maxRecDepth 100000
set_option linter.unusedVariables false
set_option linter.unusedSimpArgs false
section
theorem _root_.Go.bF {α : Type _} {l : List α} {i : Nat} {a : α} : l.toArray.setIfInBounds i a = (l.set i a).toArray := List.setIfInBounds_toArray ..
theorem _root_.Go.bH {α : Type _} {x : α} {l : List α} {a : α} : (x :: l).set 0 a = a :: l := List.set_cons_zero ..
theorem _root_.Go.bG {α : Type _} {x : α} {l : List α} {i : Nat} {a : α} : (x :: l).set (i + 1) a = x :: l.set i a := List.set_cons_succ ..
namespace Go.Proofs.YtdbpglhdicmhhaaGreatDoor.GA
open Go.RowKit Go.Proofs.YtdbpglhdicmhhaaGreatDoorW.aI Go.Proofs.YtdbpglhdicmhhaaGreatDoorW.aX Go.Proofs.YtdbpglhdicmhhaaGreatDoorW.aZ
def aeV : Option Int → Value
 | none => .nilIface
 | some c => .iface 175 (.int .i64 c)
theorem bZ : aeV none = .nilIface:=rfl
theorem cO (c : Int) : aeV (some c) = .iface 175 (.int .i64 c):=rfl
theorem info3 : (Tryz.prog.info? 3).map (fun i => (i.zero,i.size,i.bytes)) = some (some (.int .i64 0),1,8):=by kernel_rfl
structure aiy where
 f0 : ByteArray
 f1 : Int
 f2 : Int
 f3 : ByteArray
 f4 : ByteArray
def z127 : aiy:=⟨(⟨#[]⟩ : ByteArray),(0 : Int),(0 : Int),(⟨#[]⟩ : ByteArray),(⟨#[]⟩ : ByteArray)⟩
structure S70 where
 f0 : Int
 f1 : Int
 f2 : Int
 f3 : Int
 f4 : Int
def z70 : S70:=⟨(0 : Int),(0 : Int),(0 : Int),(0 : Int),(0 : Int)⟩
structure JG where
 f0 : Bool
 f1 : Int
 f2 : Int
 f3 : Int
def z46 : JG:=⟨false,(0 : Int),(0 : Int),(0 : Int)⟩
def ZR : Kd JG:=Kd.iso (Kd.pair Kd.bool (Kd.pair (Kd.int .i64) (Kd.pair (Kd.int .i64) (Kd.int .i64)))) (fun x : JG => (x.f0,x.f1,x.f2,x.f3))
theorem Xn {w : World} {x : JG} {cs : List Value} (h : ZR.K w x cs) : cs = [.bool x.f0,.int .i64 x.f1,.int .i64 x.f2,.int .i64 x.f3]:=by
 obtain ⟨_,_,rfl,rfl,⟨_,_,rfl,rfl,⟨_,_,rfl,rfl,rfl⟩⟩⟩:=h
 exact rfl
theorem acX (w : World) (x : JG)  : ZR.K w x [.bool x.f0,.int .i64 x.f1,.int .i64 x.f2,.int .i64 x.f3]:=⟨[.bool x.f0],[.int .i64 x.f1,.int .i64 x.f2,.int .i64 x.f3],rfl,rfl,⟨[.int .i64 x.f1],[.int .i64 x.f2,.int .i64 x.f3],rfl,rfl,⟨[.int .i64 x.f2],[.int .i64 x.f3],rfl,rfl,rfl⟩⟩⟩
def wM (xs : List JG) (i : Int) : JG:=xs.getD i.toNat z46
theorem KU {w : World} {A : Option Addr} {n : Nat} {xs : List JG} (h : Kd.C ZR w A n xs) (i : Int) (h0 : 0 ≤ i) (h1 : i < n) : ∃ ad ,A = some ad ∧ w.cell? (ad.add (i.toNat * 4)) = some (.bool (wM xs i).f0) ∧ w.cell? ⟨(ad.add (i.toNat * 4)).block,(ad.add (i.toNat * 4)).off + 1,none⟩ = some (.int .i64 (wM xs i).f1) ∧ w.cell? ⟨(ad.add (i.toNat * 4)).block,(ad.add (i.toNat * 4)).off + 2,none⟩ = some (.int .i64 (wM xs i).f2) ∧ w.cell? ⟨(ad.add (i.toNat * 4)).block,(ad.add (i.toNat * 4)).off + 3,none⟩ = some (.int .i64 (wM xs i).f3):=by
 obtain ⟨ad,c,e,_,hK,hc0⟩:=Kd.Vp h z46 i h0 h1
 have hc : ∀ j u,c[j]? = some u → w.cell? (ad.add (i.toNat * 4 + j)) = some u:=hc0
 obtain rfl:=Xn hK
 exact ⟨ad,e,hc 0 _ rfl,by rw [← AQ _ _ 1 (by omega)]; exact hc 1 _ rfl,by rw [← AQ _ _ 2 (by omega)]; exact hc 2 _ rfl,by rw [← AQ _ _ 3 (by omega)]; exact hc 3 _ rfl⟩
structure qB where
 f0 : (List JG)
 f1 : Bool
def z44 : qB:=⟨([] : List JG),false⟩
def Xl : Kd qB:=Kd.iso (Kd.pair (Kd.slice 46 ZR) Kd.bool) (fun x : qB => (x.f0,x.f1))
theorem Xm {w : World} {x : qB} {cs : List Value} (h : Xl.K w x cs) : ∃ A0 c0,cs = [.slice A0 x.f0.length c0,.bool x.f1] ∧ x.f0.length ≤ c0 ∧ ZR.C w A0 x.f0.length x.f0:=by
 obtain ⟨_,_,rfl,⟨A0,c0,rfl,l0,g0⟩,rfl⟩:=h
 exact ⟨A0,c0,rfl,l0,g0⟩
theorem acW (w : World) (x : qB) {A0 : Option Addr} {c0 : Nat} (l0 : x.f0.length ≤ c0) (g0 : ZR.C w A0 x.f0.length x.f0) : Xl.K w x [.slice A0 x.f0.length c0,.bool x.f1]:=⟨[.slice A0 x.f0.length c0],[.bool x.f1],rfl,⟨A0,c0,rfl,l0,g0⟩,rfl⟩
def rX (xs : List qB) (i : Int) : qB:=xs.getD i.toNat z44
theorem IC {w : World} {A : Option Addr} {n : Nat} {xs : List qB} (h : Kd.C Xl w A n xs) (i : Int) (h0 : 0 ≤ i) (h1 : i < n) : ∃ ad A0 c0,A = some ad ∧ w.cell? (ad.add (i.toNat * 2)) = some (.slice A0 (rX xs i).f0.length c0) ∧ w.cell? ⟨(ad.add (i.toNat * 2)).block,(ad.add (i.toNat * 2)).off + 1,none⟩ = some (.bool (rX xs i).f1) ∧ (rX xs i).f0.length ≤ c0 ∧ ZR.C w A0 (rX xs i).f0.length (rX xs i).f0:=by
 obtain ⟨ad,c,e,_,hK,hc0⟩:=Kd.Vp h z44 i h0 h1
 have hc : ∀ j u,c[j]? = some u → w.cell? (ad.add (i.toNat * 2 + j)) = some u:=hc0
 obtain ⟨A0,c0,rfl,l0,g0⟩:=Xm hK
 exact ⟨ad,A0,c0,e,hc 0 _ rfl,by rw [← AQ _ _ 1 (by omega)]; exact hc 1 _ rfl,l0,g0⟩
structure jw where
 f0 : Int
 f1 : Int
def z41 : jw:=⟨(0 : Int),(0 : Int)⟩
def Xj : Kd jw:=Kd.iso (Kd.pair (Kd.int .i64) (Kd.int .i64)) (fun x : jw => (x.f0,x.f1))
theorem Xk {w : World} {x : jw} {cs : List Value} (h : Xj.K w x cs) : cs = [.int .i64 x.f0,.int .i64 x.f1]:=by
 obtain ⟨_,_,rfl,rfl,rfl⟩:=h
 exact rfl
theorem acV (w : World) (x : jw)  : Xj.K w x [.int .i64 x.f0,.int .i64 x.f1]:=⟨[.int .i64 x.f0],[.int .i64 x.f1],rfl,rfl,rfl⟩
def NG (xs : List jw) (i : Int) : jw:=xs.getD i.toNat z41
theorem DK {w : World} {A : Option Addr} {n : Nat} {xs : List jw} (h : Kd.C Xj w A n xs) (i : Int) (h0 : 0 ≤ i) (h1 : i < n) : ∃ ad ,A = some ad ∧ w.cell? (ad.add (i.toNat * 2)) = some (.int .i64 (NG xs i).f0) ∧ w.cell? ⟨(ad.add (i.toNat * 2)).block,(ad.add (i.toNat * 2)).off + 1,none⟩ = some (.int .i64 (NG xs i).f1):=by
 obtain ⟨ad,c,e,_,hK,hc0⟩:=Kd.Vp h z41 i h0 h1
 have hc : ∀ j u,c[j]? = some u → w.cell? (ad.add (i.toNat * 2 + j)) = some u:=hc0
 obtain rfl:=Xk hK
 exact ⟨ad,e,hc 0 _ rfl,by rw [← AQ _ _ 1 (by omega)]; exact hc 1 _ rfl⟩
end Go.Proofs.YtdbpglhdicmhhaaGreatDoor.GA
end

section
namespace Go.Proofs.YtdbpglhdicmhhaaGreatDoor.GA
open Go.RowKit Go.Proofs.YtdbpglhdicmhhaaGreatDoorW.aI Go.Proofs.YtdbpglhdicmhhaaGreatDoorW.aX Go.Proofs.YtdbpglhdicmhhaaGreatDoorW.aZ
end Go.Proofs.YtdbpglhdicmhhaaGreatDoor.GA
end

section
namespace Go.Proofs.YtdbpglhdicmhhaaGreatDoor.Q
open Go.RowKit Go.Proofs.YtdbpglhdicmhhaaGreatDoor.GA Go.Proofs.YtdbpglhdicmhhaaGreatDoorW.aI Go.Proofs.YtdbpglhdicmhhaaGreatDoorW.aX Go.Proofs.YtdbpglhdicmhhaaGreatDoorW.aZ
structure aiv (l0 : List Int) (l1 : List jw) (l2 : List qB) : Prop where
 code : l0.length < 35184372088832
 funcs : l1.length < 8796093022208
 tabs : l2.length < 4398046511104
 cases : ∀ t ∈ l2,t.f0.length < 4398046511104
section
variable {l0 : List Int} {l1 : List jw} {l2 : List qB} (M : aiv l0 l1 l2)
include M
end
end Go.Proofs.YtdbpglhdicmhhaaGreatDoor.Q
end

section
namespace Go.Proofs.YtdbpglhdicmhhaaGreatDoor.Kinds
open Go.RowKit Go.Proofs.YtdbpglhdicmhhaaGreatDoorW.aI Go.Proofs.YtdbpglhdicmhhaaGreatDoor.Opn Go.Proofs.YtdbpglhdicmhhaaGreatDoor.GA
theorem o3 : Opens Tryz.prog 3 (Kd.int .i64) (JI .i64):=Kw Tryz.underlying3 (by kernel_rfl)
theorem o4 : Opens Tryz.prog 4 Kd.bool (fun _ _ => True):=Q7 Tryz.underlying4 (by kernel_rfl)
theorem o39 : Opens Tryz.prog 39 (Kd.int .u32) (JI .u32):=Kw Tryz.underlying39 (by kernel_rfl)
theorem o22 : Opens Tryz.prog 22 (Kd.slice 39 (Kd.int .u32)) (Yk 4 (JI .u32)):=zY o39 Tryz.underlying22 (by kernel_rfl) (B:=4) (by kernel_rfl)
def G41 (x : jw) (n : Nat) : Prop:=Gl (JI .i64) (JI .i64) (x.f0,x.f1) n
theorem o41 : Opens Tryz.prog 41 Xj G41 :=
 wX (xX o3 (Ip o3)) Tryz.underlying41 (by kernel_rfl) (by kernel_rfl) (by kernel_rfl) _ (fun a => ⟨a.1,a.2⟩) (fun _ => rfl)
theorem o23 : Opens Tryz.prog 23 (Kd.slice 41 Xj) (Yk 16 G41):=zY o41 Tryz.underlying23 (by kernel_rfl) (B:=16) (by kernel_rfl)
def G46 (x : JG) (n : Nat) : Prop:=Gl (fun _ _ => True) (Gl (JI .i64) (Gl (JI .i64) (JI .i64))) (x.f0,x.f1,x.f2,x.f3) n
theorem o46 : Opens Tryz.prog 46 ZR G46 :=
 wX (xX o4 (xX o3 (xX o3 (Ip o3)))) Tryz.underlying46 (by kernel_rfl) (by kernel_rfl) (by kernel_rfl) _ (fun a => ⟨a.1,a.2.1,a.2.2.1,a.2.2.2⟩) (fun _ => rfl)
theorem o42 : Opens Tryz.prog 42 (Kd.slice 46 ZR) (Yk 32 G46):=zY o46 Tryz.underlying42 (by kernel_rfl) (B:=32) (by kernel_rfl)
def G44 (x : qB) (n : Nat) : Prop:=Gl (Yk 32 G46) (fun _ _ => True) (x.f0,x.f1) n
theorem o44 : Opens Tryz.prog 44 Xl G44 :=
 wX (xX o42 (Ip o4)) Tryz.underlying44 (by kernel_rfl) (by kernel_rfl) (by kernel_rfl) _ (fun a => ⟨a.1,a.2⟩) (fun _ => rfl)
theorem o24 : Opens Tryz.prog 24 (Kd.slice 44 Xl) (Yk 32 G44):=zY o44 Tryz.underlying24 (by kernel_rfl) (B:=32) (by kernel_rfl)
structure S26 where
 code : List Int
 funcs : List jw
 tabs : List qB
def k26 : Kd S26:=Kd.iso (Kd.pair (Kd.slice 39 (Kd.int .u32)) (Kd.pair (Kd.slice 41 Xj) (Kd.slice 44 Xl))) (fun x : S26 => (x.code,x.funcs,x.tabs))
theorem Xi {w : World} {x : S26} {cs : List Value} (h : k26.K w x cs) : ∃ A0 c0 A1 c1 A2 c2,cs = [.slice A0 x.code.length c0,.slice A1 x.funcs.length c1,.slice A2 x.tabs.length c2] ∧ x.code.length ≤ c0 ∧ (Kd.int .u32).C w A0 x.code.length x.code ∧ x.funcs.length ≤ c1 ∧ Xj.C w A1 x.funcs.length x.funcs ∧ x.tabs.length ≤ c2 ∧ Xl.C w A2 x.tabs.length x.tabs:=by
 obtain ⟨_,_,rfl,⟨A0,c0,rfl,h0,h1⟩,⟨_,_,rfl,⟨A1,c1,rfl,h2,h3⟩,⟨A2,c2,rfl,h4,h5⟩⟩⟩:=h
 exact ⟨A0,c0,A1,c1,A2,c2,rfl,h0,h1,h2,h3,h4,h5⟩
def G26 (x : S26) (n : Nat) : Prop:=Gl (Yk 4 (JI .u32)) (Gl (Yk 16 G41) (Yk 32 G44)) (x.code,x.funcs,x.tabs) n
theorem o26 : Opens Tryz.prog 26 k26 G26 :=
 wX (xX o22 (xX o23 (Ip o24))) Tryz.underlying26 (by kernel_rfl) (by kernel_rfl) (by kernel_rfl) _ (fun a => ⟨a.1,a.2.1,a.2.2⟩) (fun _ => rfl)
theorem wf_u32 {n : Int} (h : (Lit.int IntKind.u32 n).wf = true) : 0 ≤ n ∧ n < 4294967296:=by
 unfold Lit.wf at h
 rw [Bool.and_eq_true] at h
 have a:=of_decide_eq_true h.1
 have b:=of_decide_eq_true h.2
 rw [show IntKind.u32.min = 0 by decide] at a
 rw [show IntKind.u32.max = 4294967295 by decide] at b
 omega
theorem words {x : S26} {n : Nat} (h : G26 x n) : ∀ y ∈ x.code,0 ≤ y ∧ y < 4294967296:=fun y hy => wf_u32 (h.1.2.2.2 y hy)
end Go.Proofs.YtdbpglhdicmhhaaGreatDoor.Kinds
end

section
namespace Go.Proofs.YtdbpglhdicmhhaaGreatDoor.Num
open Go.Lib
theorem CS (d : Nat) (h : d < 10) : (UInt8.ofNat (48 + d)).toNat = 48 + d:=by
 rw [UInt8.toNat_ofNat']
 omega
theorem IW {u : Nat} (h : ¬ u < 10) : decDigits u = decDigits (u / 10) ++ [UInt8.ofNat (48 + u % 10)]:=by conv => lhs; rw [decDigits,dif_neg h]
theorem Hq : ∀ (n u : Nat),u ≤ n → ∀ b ∈ decDigits u,48 ≤ b.toNat ∧ b.toNat ≤ 57
 | n,u,hn,b,hb => by
  by_cases c : u < 10
  ·rw [decDigits_one c,List.mem_singleton] at hb
   subst hb
   rw [CS u c]; omega
  ·obtain ⟨n,rfl⟩ : ∃ m,n = m + 1:=⟨n - 1,by omega⟩
   rw [IW c,List.mem_append,List.mem_singleton] at hb
   rcases hb with hb | rfl
   ·exact Hq n (u / 10) (by omega) b hb
   ·rw [CS _ (by omega)]; omega
@[irreducible] def Gt (acc : Nat) (b : UInt8) : Nat:=acc * 10 + (b.toNat - 48)
def dfold (acc : Nat) (l : List UInt8) : Nat:=l.foldl Gt acc
theorem FV (acc : Nat) : dfold acc [] = acc:=rfl
theorem Bh (acc : Nat) (b : UInt8) (r : List UInt8) : dfold acc (b :: r) = dfold (Gt acc b) r:=by unfold dfold; rw [List.foldl_cons]
theorem FU : ∀ (n u : Nat),u ≤ n → ∀ r,dfold 0 (decDigits u ++ r) = dfold u r
 | n,u,hn,r => by
  by_cases c : u < 10
  ·have e : Gt 0 (UInt8.ofNat (48 + u)) = u:=by unfold Gt; rw [CS u c]; omega
   rw [decDigits_one c,List.singleton_append,Bh,e]
  ·obtain ⟨n,rfl⟩ : ∃ m,n = m + 1:=⟨n - 1,by omega⟩
   have e : Gt (u / 10) (UInt8.ofNat (48 + u % 10)) = u:=by unfold Gt; rw [CS _ (by omega)]; omega
   rw [IW c,List.append_assoc,List.singleton_append,FU n (u / 10) (by omega),Bh,e]
end Go.Proofs.YtdbpglhdicmhhaaGreatDoor.Num
end

section
namespace Go.Proofs.YtdbpglhdicmhhaaGreatDoor.Q
open Go.Lib Num
def OL (b : UInt8) : Bool:=decide (48 ≤ b.toNat ∧ b.toNat ≤ 57)
def letter (b : UInt8) : Bool:=decide (b.toNat = 95 ∨ (97 ≤ b.toNat ∧ b.toNat ≤ 122) ∨ (65 ≤ b.toNat ∧ b.toNat ≤ 90))
def nameB (l : List UInt8) : Bool:=match l with
 | [] => false
 | c :: r => decide (l.length ≤ 32) && letter c && l.all (fun b => letter b || OL b)
def wQ (l : List UInt8) : Bool:=!l.isEmpty && l.all OL
def xW (l : List UInt8) : Int × Int :=
 if (hasPrefix l [114] && wQ (trimPrefix l [114]) && !(decide (1 < (trimPrefix l [114]).length) && (trimPrefix l [114]).head? == some 48)) = true then
  (match atoiAll (trimPrefix l [114]) with | .ok v => if v < 16 then (v,0) else (0,73) | _ => (0,73))
 else (0,70)
def xP (l : List UInt8) : Int × Bool :=
 if (wQ (trimPrefix l [45]) && decide ((trimPrefix l [45]).length ≤ 9)) = true then ((match atoiAll l with | .ok v => v | _ => 0),true) else (0,false)
def fD : List Int → Int → List (List UInt8) → List Int × Int
 | acc,e,[] => (acc,e)
 | acc,e,w :: r => if (xW w).2 = 70 then ([],70) else fD (acc ++ [(xW w).1]) (max e (xW w).2) r
theorem Lj (b : UInt8) : OL b = true ↔ 48 ≤ b.toNat ∧ b.toNat ≤ 57:=by unfold OL; simp
theorem OO (acc : Nat) (b : UInt8) : Gt acc b = acc * 10 + (b.toNat - 48):=by unfold Gt; rfl
theorem KP : ∀ (l : List UInt8) (acc : Nat),(∀ b ∈ l,OL b = true) → (acc + 1) * 10 ^ l.length ≤ 1000000000 → parseUint10 acc l = .ok (dfold acc l)
 | [],acc,_,_ => by rw [parseUint10,FV]
 | c :: r,acc,hd,h => by
  have hc:=(Lj c).1 (hd c List.mem_cons_self)
  have hp : 1 ≤ 10 ^ r.length:=Nat.one_le_pow _ _ (by omega)
  rw [List.length_cons,Nat.pow_succ] at h
  have h2 : (acc + 1) * 10 * 10 ^ r.length ≤ 1000000000:=by
   rw [Nat.mul_comm (10 ^ r.length) 10,← Nat.mul_assoc] at h; exact h
  have h3 : (acc + 1) * 10 ≤ 1000000000:=Nat.le_trans (Nat.le_mul_of_pos_right _ hp) h2
  rw [parseUint10,if_pos hc,if_neg (by omega),if_neg (by omega),Bh,OO]
  refine KP r _ (fun b hb => hd b (List.mem_cons_of_mem _ hb)) (Nat.le_trans (Nat.mul_le_mul_right _ ?_) h2)
  omega
theorem J9 (l : List UInt8) : wQ l = true ↔ l ≠ [] ∧ ∀ b ∈ l,OL b = true:=by
 unfold wQ
 rw [Bool.and_eq_true,List.all_eq_true]
 cases l <;> simp
theorem aah (c : UInt8) (r : List UInt8) : trimPrefix (c :: r) [45] = if c = 45 then r else c :: r:=by
 unfold trimPrefix hasPrefix
 by_cases h : c = 45
 ·subst h; rfl
 ·rw [if_neg h,if_neg]
  simp [List.isPrefixOf]
  exact fun e => h e.symm
theorem aeM {l : List UInt8} (h : wQ (trimPrefix l [45]) = true) (hl : (trimPrefix l [45]).length ≤ 9) : ∃ v,atoiAll l = .ok v:=by
 cases l with
 | nil => simp [trimPrefix,hasPrefix,wQ] at h
 | cons c r =>
  rw [aah] at h hl
  obtain ⟨h0,hd⟩:=(J9 _).1 h
  have key : ∀ d : List UInt8,d ≠ [] → (∀ b ∈ d,OL b = true) → d.length ≤ 9 → ∃ u,parseMag d = .ok u ∧ u < 1000000000:=by
   intro d h0 hd hl
   refine ⟨dfold 0 d,?_,?_⟩
   ·unfold parseMag
    rw [if_neg h0]
    exact KP d 0 hd (by have:=Nat.pow_le_pow_right (n:=10) (by omega) hl; omega)
   ·have : ∀ (d : List UInt8) (acc : Nat),(∀ b ∈ d,OL b = true) → dfold acc d < (acc + 1) * 10 ^ d.length:=by
     intro d
     induction d with
     | nil => intro acc _; rw [FV]; simp
     | cons c r ih =>
      intro acc hd
      have hc:=(Lj c).1 (hd c List.mem_cons_self)
      rw [Bh,OO,List.length_cons,Nat.pow_succ,Nat.mul_comm (10 ^ r.length) 10,← Nat.mul_assoc]
      refine Nat.lt_of_lt_of_le (ih _ (fun b hb => hd b (List.mem_cons_of_mem _ hb))) (Nat.mul_le_mul_right _ ?_)
      omega
    have h1:=this d 0 hd
    have:=Nat.pow_le_pow_right (n:=10) (by omega) hl
    omega
  unfold atoiAll
  by_cases hc : c = 45
  ·rw [if_pos hc] at h0 hd hl
   obtain ⟨u,hu,hb⟩:=key r h0 hd hl
   subst hc
   simp only [show (45 : UInt8).toNat = 45 from rfl]
   simp only [or_true,if_true,hu]
   rw [if_neg (by simp),if_neg (by simp; omega)]
   exact ⟨_,rfl⟩
  ·rw [if_neg hc] at h0 hd hl
   obtain ⟨u,hu,hb⟩:=key _ h0 hd hl
   have hcd:=(Lj c).1 (hd c List.mem_cons_self)
   have h43 : ¬ (c.toNat = 43 ∨ c.toNat = 45):=by omega
   simp only [if_neg h43,hu]
   rw [if_neg (by omega),if_neg (by omega)]
   exact ⟨_,rfl⟩
end Go.Proofs.YtdbpglhdicmhhaaGreatDoor.Q
end

section
namespace Go.Proofs.YtdbpglhdicmhhaaGreatDoor.GA
open Go.RowKit Go.Proofs.YtdbpglhdicmhhaaGreatDoorW.aI Go.Proofs.YtdbpglhdicmhhaaGreatDoorW.aX Go.Proofs.YtdbpglhdicmhhaaGreatDoorW.aZ
def gU.f (a0 : Int) : Option (Bool):=if a0 = 95 then (some true) else (if a0 ≥ 97 then (if a0 ≤ 122 then (some true) else (if a0 ≥ 65 then (some (decide (a0 ≤ 90))) else (some false))) else (if a0 ≥ 65 then (some (decide (a0 ≤ 90))) else (some false)))
theorem gU.calls (a0 : Int) (r : Bool) (w : World) (h : gU.f a0 = some r) :
  Calls Tryz.prog 116 #[.int .u8 a0] w fun e w' => e = .returned (.bool r) ∧ aV w w':=by
 have H : (if a0 = 95 then (some true) else (if a0 ≥ 97 then (if a0 ≤ 122 then (some true) else (if a0 ≥ 65 then (some (decide (a0 ≤ 90))) else (some false))) else (if a0 ≥ 65 then (some (decide (a0 ≤ 90))) else (some false)))) = some r:=h
 clear h
 by_cases c2 : a0 = 95
 ·rw [if_pos c2] at H
  have DT : (a0 == 95) = true:=beq_iff_eq.mpr c2
  have QC : (a0 != 95) = false:=bne_eq_false_iff_eq.mpr c2
  clear c2
  obtain rfl:=Option.some.inj H
  go_enter Tryz.func116,Tryz.ntmps116
  go_wp2
  go_ret
  exact ⟨by first | rfl | (simp; done) | (simp [*]; done),by repeat (first | exact aV.refl _ | apply aV.step)⟩
 ·rw [if_neg c2] at H
  have DT : (a0 == 95) = false:=beq_eq_false_iff_ne.mpr c2
  have QC : (a0 != 95) = true:=bne_iff_ne.mpr c2
  by_cases c3 : a0 ≥ 97
  ·rw [if_pos c3] at H
   have rC : decide (97 ≤ a0) = true:=decide_eq_true c3
   clear c3
   by_cases c4 : a0 ≤ 122
   ·rw [if_pos c4] at H
    have wU : decide (a0 ≤ 122) = true:=decide_eq_true c4
    clear c4
    obtain rfl:=Option.some.inj H
    go_enter Tryz.func116,Tryz.ntmps116
    go_wp2
    go_ret
    exact ⟨by first | rfl | (simp; done) | (simp [*]; done),by repeat (first | exact aV.refl _ | apply aV.step)⟩
   ·rw [if_neg c4] at H
    have wU : decide (a0 ≤ 122) = false:=decide_eq_false c4
    clear c4
    by_cases c5 : a0 ≥ 65
    ·rw [if_pos c5] at H
     have rZ : decide (65 ≤ a0) = true:=decide_eq_true c5
     clear c5
     obtain rfl:=Option.some.inj H
     go_enter Tryz.func116,Tryz.ntmps116
     go_wp2
     go_ret
     exact ⟨by first | rfl | (simp; done) | (simp [*]; done),by repeat (first | exact aV.refl _ | apply aV.step)⟩
    ·rw [if_neg c5] at H
     have rZ : decide (65 ≤ a0) = false:=decide_eq_false c5
     clear c5
     obtain rfl:=Option.some.inj H
     go_enter Tryz.func116,Tryz.ntmps116
     go_wp2
     go_ret
     exact ⟨by first | rfl | (simp; done) | (simp [*]; done),by repeat (first | exact aV.refl _ | apply aV.step)⟩
  ·rw [if_neg c3] at H
   have rC : decide (97 ≤ a0) = false:=decide_eq_false c3
   clear c3
   by_cases c6 : a0 ≥ 65
   ·rw [if_pos c6] at H
    have GY : decide (65 ≤ a0) = true:=decide_eq_true c6
    clear c6
    obtain rfl:=Option.some.inj H
    go_enter Tryz.func116,Tryz.ntmps116
    go_wp2
    go_ret
    exact ⟨by first | rfl | (simp; done) | (simp [*]; done),by repeat (first | exact aV.refl _ | apply aV.step)⟩
   ·rw [if_neg c6] at H
    have GY : decide (65 ≤ a0) = false:=decide_eq_false c6
    clear c6
    obtain rfl:=Option.some.inj H
    go_enter Tryz.func116,Tryz.ntmps116
    go_wp2
    go_ret
    exact ⟨by first | rfl | (simp; done) | (simp [*]; done),by repeat (first | exact aV.refl _ | apply aV.step)⟩
end Go.Proofs.YtdbpglhdicmhhaaGreatDoor.GA
end

section
namespace Go.Proofs.YtdbpglhdicmhhaaGreatDoor.GA
open Go.RowKit Go.Proofs.YtdbpglhdicmhhaaGreatDoorW.aI Go.Proofs.YtdbpglhdicmhhaaGreatDoorW.aX Go.Proofs.YtdbpglhdicmhhaaGreatDoorW.aZ
def gW.f (a0 : Int) : Option (Bool):=if a0 ≥ 48 then (some (decide (a0 ≤ 57))) else (some false)
theorem gW.calls (a0 : Int) (r : Bool) (w : World) (h : gW.f a0 = some r) :
  Calls Tryz.prog 117 #[.int .u8 a0] w fun e w' => e = .returned (.bool r) ∧ aV w w':=by
 have H : (if a0 ≥ 48 then (some (decide (a0 ≤ 57))) else (some false)) = some r:=h
 clear h
 by_cases c2 : a0 ≥ 48
 ·rw [if_pos c2] at H
  have DT : decide (48 ≤ a0) = true:=decide_eq_true c2
  clear c2
  obtain rfl:=Option.some.inj H
  go_enter Tryz.func117,Tryz.ntmps117
  go_wp2
  go_ret
  exact ⟨by first | rfl | (simp; done) | (simp [*]; done),by repeat (first | exact aV.refl _ | apply aV.step)⟩
 ·rw [if_neg c2] at H
  have DT : decide (48 ≤ a0) = false:=decide_eq_false c2
  clear c2
  obtain rfl:=Option.some.inj H
  go_enter Tryz.func117,Tryz.ntmps117
  go_wp2
  go_ret
  exact ⟨by first | rfl | (simp; done) | (simp [*]; done),by repeat (first | exact aV.refl _ | apply aV.step)⟩
end Go.Proofs.YtdbpglhdicmhhaaGreatDoor.GA
end
