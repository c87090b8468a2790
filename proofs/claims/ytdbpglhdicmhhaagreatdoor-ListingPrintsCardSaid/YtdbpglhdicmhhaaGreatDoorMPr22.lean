import Derived.Test.YtdbpglhdicmhhaaGreatDoorMPr12
import Derived.Test.YtdbpglhdicmhhaaGreatDoorMPr10
import Derived.Test.YtdbpglhdicmhhaaGreatDoorMPr21
import Derived.Test.YtdbpglhdicmhhaaGreatDoorMPr17
import Derived.Lib.ItoaLen
import Derived.IntWalk
set_option maxHeartbeats 8000000
set_option maxRecDepth 100000
set_option linter.unusedVariables false
set_option linter.unusedSimpArgs false
section
namespace Go.Proofs.YtdbpglhdicmhhaaGreatDoor.Q
open Go.RowKit Go.Lib Go.Proofs.YtdbpglhdicmhhaaGreatDoor.GA
theorem vT (n : Int) (h0 : -9223372036854775808 ≤ n) (h1 : n ≤ 9223372036854775807) : (itoa n).length ≤ 21:=by
 have key : ∀ u : Nat,u < 18446744073709551616 → (decDigits u).length ≤ 20:=fun u hu => by
  rw [decDigits_length]
  exact Lib.nDigits_le20 _ (by omega)
 by_cases h : n < 0
 ·obtain ⟨u,rfl⟩ : ∃ u : Nat,n = -(u : Int):=⟨n.natAbs,by omega⟩
  rw [itoa_neg u (by omega),List.length_cons]
  have:=key u (by omega); omega
 ·obtain ⟨u,rfl⟩ : ∃ u : Nat,n = u:=⟨n.toNat,by omega⟩
  rw [itoa_nonneg]
  have:=key u (by omega); omega
theorem KL {l : List qB} {i : Nat} {t : qB} (h : l.drop i = t :: l.drop (i + 1)) : ig i (l.drop i) = X6 i t ++ ig (i + 1) (l.drop (i + 1)):=by rw [h,ig]
theorem IZ {tg : Int → Bool} {l0 : List Int} {l : List jw} {i : Nat} {f : jw} (h : l.drop i = f :: l.drop (i + 1)) : gq tg l0 i (l.drop i) = OW tg l0 i f ++ gq tg l0 (i + 1) (l.drop (i + 1)):=by rw [h,gq]
theorem GU {l : List qB} {i : Nat} {t : qB} (h : l[i]? = some t) : qX (l.take (i + 1)) = (qX (l.take i) && t.f0.all rU):=by
 unfold qX
 rw [List.take_add_one,h,List.all_append]
 simp
theorem BA {l : List qB} {i : Nat} {t : qB} (h : l[i]? = some t) (hb : t.f0.all rU = false) : qX l = false:=by
 unfold qX
 rw [List.all_eq_false]
 exact ⟨t,List.mem_of_getElem? h,by rw [hb]; simp⟩
theorem Gg {nf nt : Nat} {b e : Int} : ∀ (r : List Int) (bad : Int) (tg : Int → Bool) {x : Int × (Int → Bool)},jv nf nt b e r bad tg = some x → x.1 = 0 → bad = 0 ∧ ∀ w ∈ r,rV w = 0
 | [],bad,tg,x,h,hx => by
  rw [jv] at h
  obtain rfl:=Option.some.inj h
  exact ⟨hx,fun w hw => by cases hw⟩
 | w :: r,bad,tg,x,h,hx => by
  rw [jv] at h
  split at h
  ·rename_i he
   have h1:=(Gg r _ _ h hx).1
   split at h1
   ·exact absurd h1 he
   ·rename_i hb; exact absurd h1 hb
  ·rename_i he
   split at h
   ·obtain ⟨h1,h2⟩:=Gg r _ _ h hx
    refine ⟨h1,fun y hy => ?_⟩
    rcases List.mem_cons.1 hy with rfl | hy
    ·exact Decidable.not_not.1 he
    ·exact h2 y hy
   ·cases h
theorem KH {l0 : List Int} {nf nt : Nat} : ∀ (r : List jw) (bad : Int) (tg : Int → Bool) {x : Int × (Int → Bool)},um l0 nf nt r bad tg = some x → x.1 = 0 → bad = 0 ∧ ∀ f ∈ r,∀ w ∈ wordsOf l0 f,rV w = 0
 | [],bad,tg,x,h,hx => by
  rw [um] at h
  obtain rfl:=Option.some.inj h
  exact ⟨hx,fun f hf => by cases hf⟩
 | f :: r,bad,tg,x,h,hx => by
  rw [um] at h
  obtain ⟨y,hy,h2⟩:=Option.bind_eq_some_iff.1 h
  obtain ⟨h3,h4⟩:=KH r _ _ h2 hx
  obtain ⟨h5,h6⟩:=Gg _ _ _ hy h3
  refine ⟨h5,fun g hg => ?_⟩
  rcases List.mem_cons.1 hg with rfl | hg
  ·exact h6
  ·exact h4 g hg
theorem XF {l0 : List Int} {l1 : List jw} {l2 : List qB} (h : qX l2 = false) : wF l0 l1 l2 = ([],1):=by
 unfold wF
 rw [h,if_pos (by simp)]
theorem ER {l0 : List Int} {l1 : List jw} {l2 : List qB} (h1 : gX l0 l1 = true) (h2 : qX l2 = true) : wF l0 l1 l2 = match um l0 l1.length l2.length l1 0 (fun _ => false) with
  | none => ([],1)
  | some (bad,tg) => if bad ≠ 0 then ([],bad) else if 262144 < (ig 0 l2 ++ gq tg l0 0 l1).length then ([],75) else (ig 0 l2 ++ gq tg l0 0 l1,0):=by
 unfold wF
 rw [h1,h2,if_neg (by simp)]
 rfl
theorem KD {l0 : List Int} {l1 : List jw} {l2 : List qB} (h1 : gX l0 l1 = true) (h2 : qX l2 = true) (h3 : um l0 l1.length l2.length l1 0 (fun _ => false) = none) : wF l0 l1 l2 = ([],1):=by rw [ER h1 h2,h3]
theorem ZX {l0 : List Int} {l1 : List jw} {l2 : List qB} {bad : Int} {tg : Int → Bool} (h1 : gX l0 l1 = true) (h2 : qX l2 = true) (h3 : um l0 l1.length l2.length l1 0 (fun _ => false) = some (bad,tg)) (hb : bad ≠ 0) : wF l0 l1 l2 = ([],bad):=by
 rw [ER h1 h2,h3]; exact if_pos hb
theorem adi {l0 : List Int} {l1 : List jw} {l2 : List qB} {tg : Int → Bool} (h1 : gX l0 l1 = true) (h2 : qX l2 = true) (h3 : um l0 l1.length l2.length l1 0 (fun _ => false) = some (0,tg)) : wF l0 l1 l2 = if 262144 < (ig 0 l2 ++ gq tg l0 0 l1).length then ([],75) else (ig 0 l2 ++ gq tg l0 0 l1,0):=by
 rw [ER h1 h2,h3]; exact if_neg (fun h => h rfl)
theorem Rj (o : Int) : (iQ o = [76] ∧ aW.f 2 o = some ⟨#[76]⟩) ∨ (iQ o ≠ [76] ∧ aW.f 2 o = some ⟨#[102]⟩) ∨ (iQ o ≠ [76] ∧ aW.f 2 o = some ⟨#[116]⟩) ∨ (iQ o ≠ [76] ∧ aW.f 2 o = some ⟨#[]⟩):=by
 rw [prefix_at 0]
 unfold iQ
 repeat' split
 ·exact .inl ⟨rfl,rfl⟩
 ·exact .inr (.inl ⟨by simp,rfl⟩)
 ·exact .inr (.inr (.inl ⟨by simp,rfl⟩))
 ·exact .inr (.inr (.inr ⟨by simp,rfl⟩))
theorem YQ {w : Int} (h0 : 0 ≤ w) (h1 : w < 4294967296) (he : rV w = 0) : (Lit.int .i64 (uz w)).wf = true:=by
 rcases wW w h0 h1 with ⟨k,a,b,c,m,_,h,_,_,_,hm⟩ | ⟨o,a,b,c,m,e,h,hne⟩
 ·have hd : uz w = m:=by unfold uz su; rw [h]; rfl
  rw [hd]
  obtain ⟨h2,h3⟩:=hm
  show (decide (IntKind.i64.min ≤ m) && decide (m ≤ IntKind.i64.max)) = true
  rw [show IntKind.i64.min = -9223372036854775808 by decide,show IntKind.i64.max = 9223372036854775807 by decide,Bool.and_eq_true]
  exact ⟨decide_eq_true (by omega),decide_eq_true (by omega)⟩
 ·exact absurd (show e = 0 by unfold rV su at he; rw [h] at he; exact he) hne
theorem X4 {nf nt : Nat} {b e w : Int} {r : List Int} {bad : Int} {tg : Int → Bool} (h : rV w ≠ 0) : jv nf nt b e (w :: r) bad tg = jv nf nt b e r (if bad = 0 then rV w else bad) tg:=by rw [jv,if_pos h]
theorem X5 {nf nt : Nat} {b e w : Int} {r : List Int} {bad : Int} {tg : Int → Bool} (h : rV w = 0) (hf : fitsV nf nt b e w = true) : jv nf nt b e (w :: r) bad tg = jv nf nt b e r bad (if iQ (AZ w) = [76] then fun y => decide (y = uz w) || tg y else tg):=by rw [jv,if_neg (fun x => x h),if_pos hf]
theorem Rt {nf nt : Nat} {b e w : Int} {r : List Int} {bad : Int} {tg : Int → Bool} (h : rV w = 0) (hf : fitsV nf nt b e w = false) : jv nf nt b e (w :: r) bad tg = none:=by rw [jv,if_neg (fun x => x h),hf]; rfl
theorem Po {l0 : List Int} {l1 : List jw} {l2 : List qB} {i : Nat} {w : Int} (hw : l0[i]? = some w) (h0 : 0 ≤ w) (h1 : w < 4294967296) (he : rV w = 0) : aY.f 8 l0 l1 l2 (i : Int) = some (bs (sZ w),0):=by
 rcases wW w h0 h1 with ⟨k,a,b,c,m,hk,hd,fa,fb,fc,fm⟩ | ⟨o,a,b,c,m,e,hd,hne⟩
 ·rw [Kt hw hk hd fa fb fc fm]
  have hv : su w = ((k : Int) + 1,a,b,c,m,0):=by unfold su; rw [hd]; rfl
  unfold sZ AZ uz
  rw [hv]
  show _ = some (bs (Jc ((k : Int) + 1 - 1).toNat a b c m),0)
  rw [show ((k : Int) + 1 - 1).toNat = k by omega]
 ·exact absurd (show e = 0 by unfold rV su at he; rw [hd] at he; exact he) hne
theorem CJ {l0 : List Int} {f : jw} {i : Nat} (h0 : 0 ≤ f.f0) (hi : (i : Int) < f.f1 - f.f0) (h1 : f.f1 ≤ l0.length) : ∃ w,l0[f.f0.toNat + i]? = some w ∧ (wordsOf l0 f).drop i = w :: (wordsOf l0 f).drop (i + 1) ∧ w ∈ wordsOf l0 f:=by
 have hlt : f.f0.toNat + i < l0.length:=by omega
 have e : (wordsOf l0 f)[i]? = some l0[f.f0.toNat + i]:=by
  unfold wordsOf
  rw [List.getElem?_take,if_pos (by omega),List.getElem?_drop,List.getElem?_eq_getElem hlt]
 obtain ⟨a1,a2⟩:=List.getElem?_eq_some_iff.1 e
 refine ⟨l0[f.f0.toNat + i],List.getElem?_eq_getElem hlt,?_,List.mem_of_getElem? e⟩
 rw [List.drop_eq_getElem_cons a1,a2]
theorem xE {l0 : List Int} {f : jw} (h0 : 0 ≤ f.f0) (h2 : f.f0 ≤ f.f1) (h1 : f.f1 ≤ l0.length) : (wordsOf l0 f).length = (f.f1 - f.f0).toNat:=by unfold wordsOf; rw [List.length_take,List.length_drop]; omega
end Go.Proofs.YtdbpglhdicmhhaaGreatDoor.Q
namespace Go.Proofs.YtdbpglhdicmhhaaGreatDoor.qp
open Go.RowKit Go.Shelf Go.Proofs.YtdbpglhdicmhhaaGreatDoorW.aI Go.Proofs.YtdbpglhdicmhhaaGreatDoorW.aX Go.Proofs.YtdbpglhdicmhhaaGreatDoorW.aZ iM GA
section
variable {w w0 W : World} {l : List (Nat × Array Value × TypeId)} {fx : List (Nat × Obj)} {b : Nat} {s : List UInt8}
theorem vN (M : qx w0 W l fx b s) (z : ByteArray) (hlen : s.length + z.size ≤ 140737488355328) :
  Calls Tryz.prog 47 #[.pointer (some ⟨b,0,none⟩),.string z] W fun e W' => e = .returned (.tuple #[.int .i64 z.size,.nilIface]) ∧ qx w0 W' l fx b (s ++ z.data.toList) :=
 (aeE.Qi w0.heap.size b (Lib.byteCells s) z W M.Qz (by rw [Lib.byteCells_length]; exact hlen) M.below.size).mono fun e W' ⟨he,hI,hb,hk⟩ => ⟨he,M.wrote (by
  have e : Lib.byteCells (s ++ z.data.toList) = Lib.byteCells s ++ Lib.strCells z:=by rw [Lib.strCells_eq]; exact List.map_append
  rw [e]; exact hI) hb hk⟩
theorem UO (M : qx w0 W l fx b s) : Calls Tryz.prog 50 #[.pointer (some ⟨b,0,none⟩)] W fun e W' => e = .returned (.int .i64 (s.length : Int)) ∧ Below W.heap.size W W':=by
 have h : ∃ p A c,W.heap[b]? = some (.cells #[p,.slice A s.length c] 89 (0,0)):=by
  have key : ∀ p,Lib.BuilderAt 89 5 w0.heap.size b p (Lib.byteCells s) W → ∃ p A c,W.heap[b]? = some (.cells #[p,.slice A s.length c] 89 (0,0)):=fun p ⟨hB,v,hb,⟨hl,ho⟩,hne⟩ => by
   rw [Lib.byteCells_length] at ho
   rcases ho with ⟨ho,hn⟩ | ⟨g,cap,cur,ho,_⟩
   ·refine ⟨p,none,0,?_⟩
    rw [hb,ho,hn]
   ·exact ⟨p,_,_,by rw [hb,ho]⟩
  exact M.Qz.elim (key _) (key _)
 obtain ⟨p,A,c,hb⟩:=h
 have c1 : W.cell? ⟨b,1,none⟩ = some (.slice A s.length c):=by rw [Lib.cell_of_heap hb]; rfl
 clear hb M
 go_enter Tryz.func50,Tryz.ntmps50
 go_wp2
 go_ret
 exact ⟨rfl,Below.refl _ _⟩
end
theorem wC {a b c : List UInt8} {N : Nat} (h : a ++ b = c) (hc : c.length ≤ N) : a.length ≤ N:=by
 rw [← h,List.length_append] at hc; omega
theorem Qx (a b : List UInt8) : (⟨a.toArray⟩ ++ ⟨b.toArray⟩ : ByteArray).data.toList = a ++ b:=by simp
theorem KW (a b : List UInt8) : (⟨a.toArray⟩ ++ ⟨b.toArray⟩ : ByteArray).size = a.length + b.length:=by simp [ByteArray.size_append]; rfl
theorem PC.below {w W : World} {A0 A1 A2 : Option Addr} {c0 c1 c2 : Nat} {l0 : List Int} {l1 : List jw} {l2 : List qB} (h : PC w A0 c0 l0 A1 c1 l1 A2 c2 l2) (hb : Below w.heap.size w W) : PC W A0 c0 l0 A1 c1 l1 A2 c2 l2 :=
 ⟨Kd.uF h.g0 hb,h.h0,Kd.uF h.g1 hb,h.h1,Kd.uF h.g2 hb,h.h2⟩
theorem Uy {w W W1 : World} (b0 : Below w.heap.size w W) (b1 : Below w.heap.size W W1) : Below w.heap.size w W1 :=
 ⟨b1.os.trans b0.os,b1.tape.trans b0.tape,b1.output.trans b0.output,Nat.le_trans b0.size b1.size,fun j hj => (b1.block j hj).trans (b0.block j hj)⟩
theorem aa0 {n : Int} (h : (Lit.int .i64 n).wf = true) : keyOf Tryz.prog 3 (.int .i64 n) = some (.int .i64 n):=Maps.keyOf_int_mk Tryz.underlying3 h
theorem acU : ∀ x y : Int,Value.int .i64 x = Value.int .i64 y → x = y:=fun x y h => by injection h
theorem afT (w : World) : (zeroValue 4).run Tryz.prog w = .ok (.bool false) w:=by kernel_rfl
theorem PS (A0 : Option Addr) (c0 : Nat) (l0 : List Int) (A1 : Option Addr) (c1 : Nat) (l1 : List jw) (A2 : Option Addr) (c2 : Nat) (l2 : List qB) (w : World) (hS : Laid.Af w) (hP : PC w A0 c0 l0 A1 c1 l1 A2 c2 l2)
  (hwd : ∀ x ∈ l0,0 ≤ x ∧ x < 4294967296) (hn0 : l0.length ≤ 1099511627776) (hn1 : l1.length ≤ 8796093022208) (hn2 : l2.length ≤ 1099511627776) (hn3 : ∀ t ∈ l2,t.f0.length ≤ 1099511627776)
  (hb2 : (Q.ig 0 l2).length ≤ 1099511627776) (hb : Q.gX l0 l1 = true → ∀ tg,(Q.ig 0 l2 ++ Q.gq tg l0 0 l1).length ≤ 1099511627776) :
  Calls Tryz.prog 17 #[.agg #[.slice A0 l0.length c0,.slice A1 l1.length c1,.slice A2 l2.length c2]] w fun e w' => e = .returned (.tuple #[.string (Q.bs (Q.wF l0 l1 l2).1),.int .i64 (Q.wF l0 l1 l2).2]) ∧ Below w.heap.size w w':=by
 have HS:=Lib.hid hS
 have HP:=Lib.hid hP
 have HW:=Lib.hid hwd
 have Vf:=Lib.hid hn0
 have Yr:=Lib.hid hn1
 have Qp:=Lib.hid hn2
 have HN3:=Lib.hid hn3
 have HB2:=Lib.hid hb2
 have HB:=Lib.hid hb
 have M0:=ah.mk (bf.start [] w)
 clear hS hP hwd hn0 hn1 hn2 hn3 hb2 hb
 go_enter Tryz.func17,Tryz.ntmps17
 go_wp2_with (first
  | ((with_reducible refine bI (N:=1) rfl ?_); refine fB M0 1 #[.slice A0 l0.length c0,.slice A1 l1.length c1,.slice A2 l2.length c2] 26 ?_; clear M0; intro g1 w1 M1; have p0:=M1.out.mem.cell 0 rfl 0; have p1:=M1.out.mem.cell 0 rfl 1; have p2:=M1.out.mem.cell 0 rfl 2)
  | fail)
 refine (PN A0 c0 l0 A1 c1 l1 A2 c2 l2 w1 (HP.out.below M1.out.mem.below) Yr.out).mono ?_
 rintro e w2 ⟨rfl,hbw⟩
 have M2:=ah.mk (M1.out.call hbw)
 clear M1 hbw p0 p1 p2
 cases hpv : Q.gX l0 l1 with
 | false =>
  have HR:=Lib.hid (show Q.wF l0 l1 l2 = ([],1) by unfold Q.wF; rw [hpv]; rfl)
  clear hpv
  go_wp2
  go_ret2
  rw [HR.out]
  exact ⟨rfl,M2.out.mem.below⟩
 | true =>
 have Yt:=Lib.hid hpv
 clear hpv
 go_wp2_with (first
  | ((with_reducible refine bI (N:=4) rfl ?_); refine bNew M2 4 (by intro x hx; simp at hx; subst hx; exact ⟨(by decide : (26 : TypeId) ≠ 5),(by decide : (26 : TypeId) ≠ 89)⟩) ?_; clear M2; intro b w3 M3; have p2:=M3.out.mem.mem.cell 0 rfl 2)
  | fail)
 go_loopg [29] l2.length (fun g v29 wr => ∃ (i : Nat) (s : List UInt8),i + g = l2.length ∧ v29 = .int .i64 i ∧ qx w wr [(g1,#[.slice A0 l0.length c0,.slice A1 l1.length c1,.slice A2 l2.length c2],26)] [] b s ∧ s ++ Q.ig i (l2.drop i) = Q.ig 0 l2 ∧ Q.qX (l2.take i) = true)
 case atStart => exact ⟨0,[],Nat.zero_add _,rfl,M3.out,by rw [List.drop_zero,List.nil_append],rfl⟩
 case round =>
  clear M3 p2
  rename World => w4
  obtain ⟨i,s,hi,rfl,M4,heq,hok⟩:=hrel
  have M5:=ah.mk M4
  have Hg:=Lib.hid heq
  have Qq:=Lib.hid hok
  clear M4 heq hok
  by_cases hil : i < l2.length
  ·obtain ⟨Ep,rfl⟩ : ∃ g,gk = g + 1:=⟨gk - 1,by omega⟩
   have HG:=Lib.hid hi
   obtain ⟨t,ht⟩ : ∃ t,l2[i]? = some t:=⟨_,List.getElem?_eq_getElem hil⟩
   have hrd : rX l2 (i : Int) = t:=by unfold rX; rw [Int.toNat_natCast,List.getD_eq_getElem?_getD,ht]; rfl
   have HT:=Lib.hid ht
   have HDR:=Lib.hid (show l2.drop i = t :: l2.drop (i + 1) by
    obtain ⟨a1,a2⟩:=List.getElem?_eq_some_iff.1 ht
    rw [List.drop_eq_getElem_cons a1,a2])
   have Qo:=Lib.hid hil
   have qi : (i : Int) < (l2.length : Int):=by omega
   have W29:=Lib.hid (show wrap64 ((i : Int) + 1) = ((i + 1 : Nat) : Int) by rw [Int.natCast_add]; exact IntWalk.wrap64_in _ (by have:=Qp.out; omega))
   obtain ⟨ad,B0,d0,rfl,x0,x1,k0,g0⟩:=IC HP.out.g2 (i : Int) (by omega) qi
   rw [Int.toNat_natCast] at x0 x1
   rw [hrd] at x0 x1 k0 g0
   have HB1:=Lib.hid M5.out.below
   have y0:=(HB1.out.cell (World.block_lt_of_cell? w _ x0)).trans x0
   have y1:=(HB1.out.cell (World.block_lt_of_cell? w _ x1)).trans x1
   have Yo:=Lib.hid g0
   have HKC:=Lib.hid k0
   have VD:=Lib.hid (HN3.out t (List.mem_of_getElem? ht))
   have Oj:=Lib.hid (Q.vT (i : Int) (by omega) (by have:=Qp.out; omega))
   have HSL:=Lib.hid (wC Hg.out HB2.out)
   clear hrd ht hil hi x0 x1 g0 k0 HB1
   go_wp2_with (first
    | ((with_reducible refine bI (N:=6) rfl ?_); refine bB M5 6 #[.slice none 0 0,.bool false] 44 ?_; clear M5; intro g6 wb M6)
    | ((with_reducible refine aU (t:=44) (p:=6) rfl ?_); refine bR M6 44 6 1 #[.slice B0 t.f0.length d0,.bool t.f1] ?_; clear M6 y0 y1; intro wc M7; have z0:=M7.out.mem.mem.cell 1 rfl 0; have z1:=M7.out.mem.mem.cell 1 rfl 1)
    | fail)
   refine (Bl (Fv HS.out.2 M7.out.below) (i : Int) (by omega) (by have:=Qp.out; have:=Qo.out; omega)).mono ?_
   rintro e W8 ⟨rfl,hb8⟩
   have M8:=ah.mk (M7.out.call hb8)
   clear M7 hb8 z0 z1
   have ov : (9223372036854775807 < 7 + (Lib.itoa (i : Int)).length) = False:=eq_false (by have:=Oj.out; omega)
   go_wp2_with fail
   refine (vN M8.out _ (by have h1:=HSL.out; have h2:=Oj.out; rw [KW [116,97,98,108,101,32,116]]; simp only [List.length_cons,List.length_nil]; omega)).mono ?_
   rintro e W9 ⟨rfl,M9⟩
   rw [Qx [116,97,98,108,101,32,116]] at M9
   have M10:=ah.mk M9
   have z1:=M10.out.mem.mem.cell 1 rfl 1
   clear M8 M9 ov
   go_upto_if 39 with (fail)
   go_cut [] (fun wc => ∃ s1,s1 = s ++ ([116,97,98,108,101,32,116] ++ Lib.itoa (i : Int)) ++ (if t.f1 then [32,100,101,102,97,117,108,116] else []) ∧ qx w wc [(g1,#[.slice A0 l0.length c0,.slice A1 l1.length c1,.slice (some ad) l2.length c2],26),(g6,#[.slice B0 t.f0.length d0,.bool t.f1],44)] [] b s1)
   case first =>
    cases ht1 : t.f1 with
    | true =>
     have HT1:=Lib.hid ht1
     rw [ht1] at z1
     clear ht1
     go_wp2_with fail
     refine (vN M10.out _ (by have h1:=HSL.out; have h2:=Oj.out; simp only [List.length_append,List.length_cons,List.length_nil]; show _ + 8 ≤ _; omega)).mono ?_
     rintro e W11 ⟨rfl,M11⟩
     go_wp2
     go_meet
     case rel => exact ⟨s ++ ([116,97,98,108,101,32,116] ++ Lib.itoa (i : Int)) ++ [32,100,101,102,97,117,108,116],by rw [if_pos HT1.out],M11⟩
    | false =>
     have HT1:=Lib.hid ht1
     rw [ht1] at z1
     clear ht1
     go_wp2
     go_meet
     case rel => exact ⟨s ++ ([116,97,98,108,101,32,116] ++ Lib.itoa (i : Int)),by rw [if_neg (by rw [HT1.out]; simp),List.append_nil],M10.out⟩
   case rest =>
    clear M10 z1
    rename World => Qg
    obtain ⟨s1,hs1,M11⟩:=hcut
    have HS1:=Lib.hid hs1
    have aeA:=Lib.hid (show s1.length ≤ 1099511627876 by
     have h1:=HSL.out; have h2:=Oj.out
     rw [hs1]
     split <;> simp only [List.length_append,List.length_cons,List.length_nil] <;> omega)
    clear hs1
    go_wp2_with fail
    refine (vN M11 _ (by have h1:=aeA.out; show _ + 1 ≤ _; omega)).mono ?_
    rintro e W12 ⟨rfl,M12⟩
    have M13:=ah.mk (show qx w W12 _ [] b (s1 ++ [10]) from M12)
    have z0:=M13.out.mem.mem.cell 1 rfl 0
    clear M11 M12
    have HE2:=Lib.hid (show (s1 ++ [10]) ++ Q.qU t.f0 ++ Q.ig (i + 1) (l2.drop (i + 1)) = Q.ig 0 l2 by
     rw [← Hg.out,Q.KL HDR.out,HS1.out,Q.X6]
     simp)
    have Un:=Lib.hid (wC HE2.out HB2.out)
    clear HSL Hg aeA
    go_wp2_with fail
    go_loopg [45] t.f0.length (fun g v45 wr => ∃ (j : Nat) (s2 : List UInt8),j + g = t.f0.length ∧ v45 = .int .i64 j ∧ qx w wr [(g1,#[.slice A0 l0.length c0,.slice A1 l1.length c1,.slice (some ad) l2.length c2],26),(g6,#[.slice B0 t.f0.length d0,.bool t.f1],44)] [] b s2 ∧ s2 ++ Q.qU (t.f0.drop j) = (s1 ++ [10]) ++ Q.qU t.f0 ∧ (t.f0.take j).all Q.rU = true)
    case atStart => exact ⟨0,_,Nat.zero_add _,rfl,M13.out,by rw [List.drop_zero],rfl⟩
    case round =>
     clear M13 z0
     rename World => w14
     obtain ⟨j,s2,hj,rfl,M14,heq,hok⟩:=hrel
     have wJ:=ah.mk M14
     have Hg:=Lib.hid heq
     have Ec:=Lib.hid hok
     clear M14 heq hok
     by_cases hjl : j < t.f0.length
     ·obtain ⟨G5,rfl⟩ : ∃ g,gk = g + 1:=⟨gk - 1,by omega⟩
      have HG2:=Lib.hid hj
      obtain ⟨x,hx⟩ : ∃ x,t.f0[j]? = some x:=⟨_,List.getElem?_eq_getElem hjl⟩
      have hrd : wM t.f0 (j : Int) = x:=by unfold wM; rw [Int.toNat_natCast,List.getD_eq_getElem?_getD,hx]; rfl
      have HX:=Lib.hid hx
      have HDX:=Lib.hid (show t.f0.drop j = x :: t.f0.drop (j + 1) by
       obtain ⟨a1,a2⟩:=List.getElem?_eq_some_iff.1 hx
       rw [List.drop_eq_getElem_cons a1,a2])
      have HJL:=Lib.hid hjl
      have qj : (j : Int) < (t.f0.length : Int):=by omega
      have W45:=Lib.hid (show wrap64 ((j : Int) + 1) = ((j + 1 : Nat) : Int) by rw [Int.natCast_add]; exact IntWalk.wrap64_in _ (by have:=VD.out; omega))
      obtain ⟨Ut,rfl,x0,x1,x2,x3⟩:=KU Yo.out (j : Int) (by omega) qj
      rw [Int.toNat_natCast] at x0 x1 x2 x3
      rw [hrd] at x0 x1 x2 x3
      have HB1:=Lib.hid wJ.out.below
      have y0:=(HB1.out.cell (World.block_lt_of_cell? w _ x0)).trans x0
      have y1:=(HB1.out.cell (World.block_lt_of_cell? w _ x1)).trans x1
      have y2:=(HB1.out.cell (World.block_lt_of_cell? w _ x2)).trans x2
      have y3:=(HB1.out.cell (World.block_lt_of_cell? w _ x3)).trans x3
      clear hrd hx hjl hj x0 x1 x2 x3 HB1
      go_wp2_with (first
       | ((with_reducible refine bI (N:=8) rfl ?_); refine bB wJ 8 #[.bool false,.int .i64 0,.int .i64 0,.int .i64 0] 46 ?_; clear wJ; intro g8 wb BF)
       | ((with_reducible refine aU (t:=46) (p:=8) rfl ?_); refine bR BF 46 8 2 #[.bool x.f0,.int .i64 x.f1,.int .i64 x.f2,.int .i64 x.f3] ?_; clear BF y0 y1 y2 y3; intro wc BM; have z0:=BM.out.mem.mem.cell 2 rfl 0; have z1:=BM.out.mem.mem.cell 2 rfl 1; have z2:=BM.out.mem.mem.cell 2 rfl 2; have z3:=BM.out.mem.mem.cell 2 rfl 3)
       | fail)
      cases hok : Q.rU x with
      | false =>
       have HC:=Lib.hid (show bT.f 8 x.f0 x.f1 x.f2 x.f3 = some (⟨#[]⟩,false) by rw [Q.Ej,hok]; rfl)
       have HR:=Lib.hid (show Q.wF l0 l1 l2 = ([],1) from Q.XF (Q.BA HT.out (by rw [List.all_eq_false]; exact ⟨x,List.mem_of_getElem? HX.out,by rw [hok]; simp⟩)))
       clear hok
       refine (GA.bT.calls 8 _ _ _ _ _ _ _ (HS.out.below BM.out.below) HC.out).mono ?_
       rintro e W18 ⟨rfl,Wp⟩
       have RX:=ah.mk (BM.out.call Wp)
       clear BM Wp z0 z1 z2 z3
       go_wp2
       go_ret2
       rw [HR.out]
       exact ⟨rfl,RX.out.below⟩
      | true =>
       obtain ⟨z,hz⟩ : ∃ z,z = Q.bs (Q.AU x):=⟨_,rfl⟩
       have HC:=Lib.hid (show bT.f 8 x.f0 x.f1 x.f2 x.f3 = some (z,true) by rw [Q.Ej,hok,hz]; rfl)
       have HZ:=Lib.hid (show (z ++ ⟨#[10]⟩).data.toList = Q.AU x ++ [10] by rw [hz]; exact Qx _ [10])
       have HCS:=Lib.hid (show s2 ++ (Q.AU x ++ [10]) ++ Q.qU (t.f0.drop (j + 1)) = (s1 ++ [10]) ++ Q.qU t.f0 by
        rw [← Hg.out,HDX.out]
        simp [Q.qU])
       have iK:=Lib.hid (show s2.length + (z.size + 1) ≤ 1099511627776 by
        have h1:=wC HCS.out Un.out
        rw [hz,Q.eX]
        simp only [List.length_append,List.length_cons,List.length_nil] at h1
        omega)
       have HOX:=Lib.hid hok
       clear hok hz
       have ov : (9223372036854775807 < z.size + 1) = False:=eq_false (by have:=iK.out; omega)
       refine (GA.bT.calls 8 _ _ _ _ _ _ _ (HS.out.below BM.out.below) HC.out).mono ?_
       rintro e W18 ⟨rfl,Wp⟩
       have RX:=ah.mk (BM.out.call Wp)
       clear BM Wp z0 z1 z2 z3
       go_wp2_with fail
       refine (vN RX.out _ (by have h1:=iK.out; rw [ByteArray.size_append]; show _ + (_ + 1) ≤ _; omega)).mono ?_
       rintro e W19 ⟨rfl,Uo⟩
       rw [HZ.out] at Uo
       have VE:=ah.mk Uo
       clear RX Uo ov
       go_wp2
       go_roundg G5
       case measure => omega
       case rel => exact ⟨j + 1,_,by have:=HG2.out; omega,by rw [W45.out],VE.out.forget 2,HCS.out,by rw [List.take_add_one,HX.out,List.all_append,Ec.out]; simp [HOX.out]⟩
     ·obtain rfl : j = t.f0.length:=by omega
      have HF:=Lib.hid (show s2 ++ Q.ig (i + 1) (l2.drop (i + 1)) = Q.ig 0 l2 by
       have h:=Hg.out
       rw [List.drop_length] at h
       rw [← HE2.out,← h]
       simp [Q.qU])
      have qj : ¬ (t.f0.length : Int) < (t.f0.length : Int):=by omega
      clear hjl hj
      go_wp2
      go_roundg Ep
      case measure => omega
      case rel => exact ⟨i + 1,s2,by have:=HG.out; omega,by rw [W29.out],wJ.out.forget 1,HF.out,by rw [Q.GU HT.out,Qq.out]; have h:=Ec.out; rw [List.take_length] at h; rw [h]; rfl⟩
  ·obtain rfl : i = l2.length:=by omega
   have HTX:=Lib.hid (show s = Q.ig 0 l2 by
    have h:=Hg.out
    rw [List.drop_length,Q.ig,List.append_nil] at h
    exact h)
   have HTO:=Lib.hid (show Q.qX l2 = true by have h:=Qq.out; rwa [List.take_length] at h)
   have qi : ¬ (l2.length : Int) < (l2.length : Int):=by omega
   clear hil hi Qq Hg
   have p1:=M5.out.mem.mem.cell 0 rfl 1
   go_wp2_with (first
    | (refine bMk M5 ?_; clear M5; intro gm w5 M6; have p1:=M6.out.mem.mem.cell 0 rfl 1)
    | fail)
   go_loopg [11,65] l1.length (fun g v11 v65 wr => ∃ (j : Nat) (bad : Int) (tg : Int → Bool) (n : Nat) (ob : Obj) (at_ : Int),j + g = l1.length ∧ v11 = .int .i64 bad ∧ v65 = .int .i64 j ∧ qx w wr [(g1,#[.slice A0 l0.length c0,.slice A1 l1.length c1,.slice A2 l2.length c2],26)] [(gm,ob)] b s ∧ wz Tryz.prog 3 4 n ob (Value.int .i64) tg ∧ Q.um l0 l1.length l2.length (l1.drop j) bad tg = Q.um l0 l1.length l2.length l1 0 (fun _ => false) ∧ Q.dG l0.length at_ (l1.drop j) = true ∧ 0 ≤ at_ ∧ at_ ≤ (l0.length : Int) ∧ (n : Int) ≤ at_)
   case atStart => exact ⟨0,0,_,0,_,0,Nat.zero_add _,rfl,rfl,M6.out,wz.empty _ _ _ _,by rw [List.drop_zero],by have h:=Yt.out; unfold Q.gX at h; rw [Bool.and_eq_true] at h; exact h.1,Int.le_refl _,by omega,Int.le_refl _⟩
   case round =>
    clear M6 p1
    rename World => w7
    obtain ⟨j,bad,tg,n,ob,at_,hj,rfl,rfl,M7,hset,hscan,hparts,ha0,ha1,hna⟩:=hrel
    have M8:=ah.mk M7
    have JJ:=Lib.hid hset
    have Um:=Lib.hid hscan
    clear M7 hset hscan
    by_cases hjl : j < l1.length
    ·obtain ⟨Ep,rfl⟩ : ∃ g,gk = g + 1:=⟨gk - 1,by omega⟩
     have HG:=Lib.hid hj
     obtain ⟨f,hf⟩ : ∃ f,l1[j]? = some f:=⟨_,List.getElem?_eq_getElem hjl⟩
     have HDR:=Lib.hid (show l1.drop j = f :: l1.drop (j + 1) by
      obtain ⟨a1,a2⟩:=List.getElem?_eq_some_iff.1 hf
      rw [List.drop_eq_getElem_cons a1,a2])
     rw [HDR.out,Q.dG] at hparts
     simp only [Bool.and_eq_true,decide_eq_true_eq] at hparts
     obtain ⟨⟨⟨rfl,hp2⟩,hp3⟩,WU⟩:=hparts
     have HP4:=Lib.hid WU
     have HF:=Lib.hid (And.intro ha0 (And.intro hp2 (And.intro hp3 hna)))
     have qj : (j : Int) < (l1.length : Int):=by omega
     have W65:=Lib.hid (show wrap64 ((j : Int) + 1) = ((j + 1 : Nat) : Int) by rw [Int.natCast_add]; exact IntWalk.wrap64_in _ (by have:=Yr.out; omega))
     obtain ⟨ad,rfl,x0,x1⟩:=DK HP.out.g1 (j : Int) (by omega) qj
     rw [Int.toNat_natCast] at x0 x1
     rw [Q.Jk hf] at x0 x1
     have HB1:=Lib.hid M8.out.below
     have y0:=(HB1.out.cell (World.block_lt_of_cell? w _ x0)).trans x0
     have y1:=(HB1.out.cell (World.block_lt_of_cell? w _ x1)).trans x1
     clear hf hjl hj x0 x1 HB1 WU hp2 hp3 ha0 ha1 hna
     go_wp2_with (first
      | ((with_reducible refine bI (N:=14) rfl ?_); refine bB M8 14 #[.int .i64 0,.int .i64 0] 41 ?_; clear M8; intro g14 wb M9)
      | ((with_reducible refine aU (t:=41) (p:=14) rfl ?_); refine bR M9 41 14 1 #[.int .i64 f.f0,.int .i64 f.f1] ?_; clear M9 y0 y1; intro wc M10; have z0:=M10.out.mem.mem.cell 1 rfl 0)
      | fail)
     go_loopg [11,15] (f.f1 - f.f0).toNat (fun g v11 v15 wr => ∃ (i : Nat) (DL : Int) (Ua : Int → Bool) (n2 : Nat) (ob2 : Obj),i + g = (f.f1 - f.f0).toNat ∧ v11 = .int .i64 DL ∧ v15 = .int .i64 (f.f0 + i) ∧ qx w wr [(g1,#[.slice A0 l0.length c0,.slice (some ad) l1.length c1,.slice A2 l2.length c2],26),(g14,#[.int .i64 f.f0,.int .i64 f.f1],41)] [(gm,ob2)] b s ∧ wz Tryz.prog 3 4 n2 ob2 (Value.int .i64) Ua ∧ Q.jv l1.length l2.length f.f0 f.f1 ((Q.wordsOf l0 f).drop i) DL Ua = Q.jv l1.length l2.length f.f0 f.f1 (Q.wordsOf l0 f) bad tg ∧ (n2 : Int) ≤ f.f0 + i)
     case atStart => exact ⟨0,bad,tg,n,ob,Nat.zero_add _,rfl,by rw [Int.natCast_zero,Int.add_zero],M10.out,JJ.out,by rw [List.drop_zero],by have:=HF.out; omega⟩
     case round =>
      clear M10 z0 JJ
      rename World => Qg
      obtain ⟨i,DL,Ua,n2,ob2,hi,rfl,rfl,M11,hset,hscan,hn2⟩:=hrel
      have M12:=ah.mk M11
      have JJ:=Lib.hid hset
      have Yv:=Lib.hid hscan
      have z1:=M12.out.mem.mem.cell 1 rfl 1
      clear M11 hset hscan
      by_cases hil : (i : Int) < f.f1 - f.f0
      ·obtain ⟨G5,rfl⟩ : ∃ g,gk = g + 1:=⟨gk - 1,by omega⟩
       have HG2:=Lib.hid hi
       obtain ⟨x,hx,hxd,hxm⟩:=Q.CJ (l0:=l0) (f:=f) (i:=i) HF.out.1 hil HF.out.2.2.1
       have HDX:=Lib.hid hxd
       have Om:=Lib.hid (HW.out x (List.mem_of_getElem? hx))
       have Qo:=Lib.hid hil
       have Vy:=Lib.hid hn2
       have qa : f.f0 + (i : Int) < f.f1:=by omega
       have q0 : (0 : Int) ≤ f.f0 + (i : Int):=by have:=HF.out.1; omega
       have q1 : f.f0 + (i : Int) < (l0.length : Int):=by have:=HF.out.2.2.1; omega
       have W15:=Lib.hid (show wrap64 (f.f0 + (i : Int) + 1) = f.f0 + ((i + 1 : Nat) : Int) by rw [IntWalk.wrap64_in _ (by have:=Vf.out; omega)]; omega)
       obtain ⟨Ut,rfl,hcell⟩:=Kd.tN HP.out.g0 (f.f0 + (i : Int)) q0 q1
       have hrx : rd l0 (f.f0 + (i : Int)) = x:=by
        unfold rd
        rw [show (f.f0 + (i : Int)).toNat = f.f0.toNat + i by have:=HF.out.1; omega,List.getD_eq_getElem?_getD,hx]; rfl
       rw [hrx] at hcell
       have yc:=(M12.out.below.cell (World.block_lt_of_cell? _ _ hcell)).trans hcell
       have p0:=M12.out.mem.mem.cell 0 rfl 0
       obtain ⟨o,a1,a2,a3,m,e,hdec⟩ : ∃ o a1 a2 a3 m e,Q.su x = (o,a1,a2,a3,m,e):=⟨_,_,_,_,_,_,rfl⟩
       have HD:=Lib.hid (show dQ.f x = some (o,a1,a2,a3,m,e) by rw [← hdec]; exact Q.Hq Om.out.1 Om.out.2)
       have Dt:=Lib.hid (show Q.AZ x = o ∧ Q.uz x = m ∧ Q.rV x = e by unfold Q.AZ Q.uz Q.rV; rw [hdec]; exact ⟨rfl,rfl,rfl⟩)
       clear hx hxd hxm hil hi hn2 hrx hcell hdec
       go_wp2_with fail
       refine (GA.dQ.calls x o a1 a2 a3 m e _ HD.out).mono ?_
       rintro e' W13 ⟨rfl,Wn⟩
       have M13:=ah.mk (M12.out.call Wn)
       clear M12 Wn z1 p0 yc
       have Ol:=Lib.hid (show Q.jv l1.length l2.length f.f0 f.f1 (x :: (Q.wordsOf l0 f).drop (i + 1)) DL Ua = Q.jv l1.length l2.length f.f0 f.f1 (Q.wordsOf l0 f) bad tg by rw [← HDX.out]; exact Yv.out)
       clear Yv
       by_cases he : e = 0
       ·subst he
        go_wp2_with (first
         | ((with_reducible refine bI (N:=16) rfl ?_); refine bB M13 16 #[.int .i64 0,.int .i64 0,.int .i64 0,.int .i64 0,.int .i64 0] 70 ?_; clear M13; intro g16 wb M14)
         | ((with_reducible refine aU (t:=70) (p:=16) rfl ?_); refine bR M14 70 16 2 #[.int .i64 o,.int .i64 a1,.int .i64 a2,.int .i64 a3,.int .i64 m] ?_; clear M14; intro wc wJ; have p0:=wJ.out.mem.mem.cell 0 rfl 0; have p1:=wJ.out.mem.mem.cell 0 rfl 1; have p2:=wJ.out.mem.mem.cell 0 rfl 2; have z0:=wJ.out.mem.mem.cell 1 rfl 0; have z1:=wJ.out.mem.mem.cell 1 rfl 1; have t0:=wJ.out.mem.mem.cell 2 rfl 0; have t1:=wJ.out.mem.mem.cell 2 rfl 1; have t2:=wJ.out.mem.mem.cell 2 rfl 2; have t3:=wJ.out.mem.mem.cell 2 rfl 3; have t4:=wJ.out.mem.mem.cell 2 rfl 4)
         | fail)
        have HFI:=Lib.hid (show Q.BG l1.length l2.length f.f0 f.f1 o m = Q.fitsV l1.length l2.length f.f0 f.f1 x by
         unfold Q.fitsV
         rw [Dt.out.1,Dt.out.2.1]; rfl)
        have HP2:=Lib.hid (HP.out.below wJ.out.below)
        cases hfit : Q.fitsV l1.length l2.length f.f0 f.f1 x with
        | false =>
         have HR:=Lib.hid (show Q.wF l0 l1 l2 = ([],1) from Q.KD Yt.out HTO.out (by
          rw [← Um.out,HDR.out,Q.um,← Ol.out,Q.Rt Dt.out.2.2 hfit]
          rfl))
         rw [hfit] at HFI
         clear hfit
         have hlf:=GH _ _ _ _ _ _ _ _ _ _ HP2.out f.f0 f.f1 o a1 a2 a3 m
         rw [HFI.out] at hlf
         refine hlf.mono ?_
         clear hlf
         rintro e' W16 ⟨rfl,hb16⟩
         have BF:=ah.mk (wJ.out.call hb16)
         clear wJ hb16 HP2 p0 p1 p2 z0 z1 t0 t1 t2 t3 t4
         go_wp2
         go_ret2
         rw [HR.out]
         exact ⟨rfl,BF.out.below⟩
        | true =>
         have Vz:=Lib.hid (show Q.jv l1.length l2.length f.f0 f.f1 ((Q.wordsOf l0 f).drop (i + 1)) DL (if Q.iQ (Q.AZ x) = [76] then fun y => decide (y = Q.uz x) || Ua y else Ua) = Q.jv l1.length l2.length f.f0 f.f1 (Q.wordsOf l0 f) bad tg by
          rw [← Ol.out,Q.X5 Dt.out.2.2 hfit])
         rw [hfit] at HFI
         have HMW:=Lib.hid (show (Lit.int .i64 m).wf = true by
          have h:=Q.YQ Om.out.1 Om.out.2 Dt.out.2.2
          rw [Dt.out.2.1] at h
          exact h)
         clear hfit Ol
         have hlf:=GH _ _ _ _ _ _ _ _ _ _ HP2.out f.f0 f.f1 o a1 a2 a3 m
         rw [HFI.out] at hlf
         refine hlf.mono ?_
         clear hlf
         rintro e' W16 ⟨rfl,hb16⟩
         have BF:=ah.mk (wJ.out.call hb16)
         have t0:=BF.out.mem.mem.cell 2 rfl 0
         clear wJ hb16 HP2 p0 p1 p2 z0 z1 t1 t2 t3 t4
         go_wp2_with fail
         rcases Q.Rj o with hp | hp | hp | hp
         ·have Qr:=Lib.hid hp.2
          have abp:=Lib.hid (show Q.jv l1.length l2.length f.f0 f.f1 ((Q.wordsOf l0 f).drop (i + 1)) DL (fun y => decide (y = m) || Ua y) = Q.jv l1.length l2.length f.f0 f.f1 (Q.wordsOf l0 f) bad tg by
           have h:=Vz.out
           rwa [Dt.out.1,hp.1,if_pos rfl,Dt.out.2.1] at h)
          clear hp Vz
          refine (GA.aW.calls 2 o _ _ Qr.out).mono ?_
          rintro e' W17 ⟨rfl,⟨nd,rfl⟩⟩
          have BM:=ah.mk (BF.out.call (aj (Below.refl _ _) nd))
          clear BF t0
          have t4:=BM.out.mem.mem.cell 2 rfl 4
          go_wp2_with (first
           | (refine bM BM 0 rfl JJ.out (Maps.int_keyed Tryz.underlying3) acU Tryz.underlying96 Tryz.underlying4 (by have:=Vy.out; have:=Vf.out; have:=HF.out.2.2.1; have:=Qo.out; unfold maxLen; omega) m (aa0 HMW.out) ?_; clear BM t4 JJ; intro Oe ob3 RX aaY; have aez:=Lib.hid aaY; clear aaY)
           | fail)
          go_roundg G5
          case measure => omega
          case rel => exact ⟨i + 1,DL,_,n2 + 1,ob3,by have:=HG2.out; omega,rfl,by rw [W15.out],RX.out.forget 2,aez.out,abp.out,by have:=Vy.out; omega⟩
         all_goals
          have Qr:=Lib.hid hp.2
          have abp:=Lib.hid (show Q.jv l1.length l2.length f.f0 f.f1 ((Q.wordsOf l0 f).drop (i + 1)) DL Ua = Q.jv l1.length l2.length f.f0 f.f1 (Q.wordsOf l0 f) bad tg by
           have h:=Vz.out
           rwa [Dt.out.1,if_neg hp.1] at h)
          clear hp Vz
          refine (GA.aW.calls 2 o _ _ Qr.out).mono ?_
          rintro e' W17 ⟨rfl,⟨nd,rfl⟩⟩
          have BM:=ah.mk (BF.out.call (aj (Below.refl _ _) nd))
          clear BF t0
          go_wp2
          go_roundg G5
          case measure => omega
          case rel => exact ⟨i + 1,DL,Ua,n2,ob2,by have:=HG2.out; omega,rfl,by rw [W15.out],BM.out.forget 2,JJ.out,abp.out,by have:=Vy.out; omega⟩
       ·have Vz:=Lib.hid (show Q.jv l1.length l2.length f.f0 f.f1 ((Q.wordsOf l0 f).drop (i + 1)) (if DL = 0 then e else DL) Ua = Q.jv l1.length l2.length f.f0 f.f1 (Q.wordsOf l0 f) bad tg by
         rw [← Ol.out,Q.X4 (by rw [Dt.out.2.2]; exact he),Dt.out.2.2])
        clear Ol
        by_cases hb0 : DL = 0
        ·subst hb0
         rw [if_pos rfl] at Vz
         go_wp2_with (first
          | ((with_reducible refine bI (N:=16) rfl ?_); refine bB M13 16 #[.int .i64 0,.int .i64 0,.int .i64 0,.int .i64 0,.int .i64 0] 70 ?_; clear M13; intro g16 wb M14)
          | ((with_reducible refine aU (t:=70) (p:=16) rfl ?_); refine bR M14 70 16 2 #[.int .i64 o,.int .i64 a1,.int .i64 a2,.int .i64 a3,.int .i64 m] ?_; clear M14; intro wc wJ)
          | fail)
         go_roundg G5
         case measure => omega
         case rel => exact ⟨i + 1,e,Ua,n2,ob2,by have:=HG2.out; omega,rfl,by rw [W15.out],wJ.out.forget 2,JJ.out,Vz.out,by have:=Vy.out; omega⟩
        ·rw [if_neg hb0] at Vz
         go_wp2_with (first
          | ((with_reducible refine bI (N:=16) rfl ?_); refine bB M13 16 #[.int .i64 0,.int .i64 0,.int .i64 0,.int .i64 0,.int .i64 0] 70 ?_; clear M13; intro g16 wb M14)
          | ((with_reducible refine aU (t:=70) (p:=16) rfl ?_); refine bR M14 70 16 2 #[.int .i64 o,.int .i64 a1,.int .i64 a2,.int .i64 a3,.int .i64 m] ?_; clear M14; intro wc wJ)
          | fail)
         go_roundg G5
         case measure => omega
         case rel => exact ⟨i + 1,DL,Ua,n2,ob2,by have:=HG2.out; omega,rfl,by rw [W15.out],wJ.out.forget 2,JJ.out,Vz.out,by have:=Vy.out; omega⟩
      ·have qa : ¬ f.f0 + (i : Int) < f.f1:=by omega
       have hie : i = (f.f1 - f.f0).toNat:=by omega
       have Vz:=Lib.hid (show some (DL,Ua) = Q.jv l1.length l2.length f.f0 f.f1 (Q.wordsOf l0 f) bad tg by
        rw [← Yv.out,hie,List.drop_eq_nil_of_le (by rw [Q.xE HF.out.1 (by have:=HF.out.2.1; omega) HF.out.2.2.1]; exact Nat.le_refl _),Q.jv])
       have ah5:=Lib.hid (show (n2 : Int) ≤ f.f1 by have:=HF.out.2.1; omega)
       clear hil hi hie hn2 Yv
       go_wp2
       go_roundg Ep
       case measure => omega
       case rel => exact ⟨j + 1,DL,Ua,n2,ob2,f.f1,by have:=HG.out; omega,rfl,by rw [W65.out],M12.out.forget 1,JJ.out,by rw [← Um.out,HDR.out,Q.um,← Vz.out]; rfl,HP4.out,by have:=HF.out; omega,HF.out.2.2.1,ah5.out⟩
    ·obtain rfl : j = l1.length:=by omega
     have HSF:=Lib.hid (show Q.um l0 l1.length l2.length l1 0 (fun _ => false) = some (bad,tg) by
      rw [← Um.out,List.drop_length,Q.um])
     have qj : ¬ (l1.length : Int) < (l1.length : Int):=by omega
     clear hjl hj hparts ha0 ha1 hna Um
     by_cases hbad : bad = 0
     ·subst hbad
      have ahT:=Lib.hid (Q.KH _ _ _ HSF.out rfl).2
      have aey:=Lib.hid (Q.adi Yt.out HTO.out HSF.out)
      have HBT:=Lib.hid (HB.out Yt.out tg)
      clear HSF
      have p1:=M8.out.mem.mem.cell 0 rfl 1
      go_wp2_with fail
      go_loopg [110] l1.length (fun g ajq wr => ∃ (j : Nat) (s1 : List UInt8) (at_ : Int),j + g = l1.length ∧ ajq = .int .i64 j ∧ qx w wr [(g1,#[.slice A0 l0.length c0,.slice A1 l1.length c1,.slice A2 l2.length c2],26)] [(gm,ob)] b s1 ∧ s1 ++ Q.gq tg l0 j (l1.drop j) = Q.ig 0 l2 ++ Q.gq tg l0 0 l1 ∧ Q.dG l0.length at_ (l1.drop j) = true ∧ 0 ≤ at_ ∧ at_ ≤ (l0.length : Int))
      case atStart => exact ⟨0,s,0,Nat.zero_add _,rfl,M8.out,by rw [List.drop_zero,HTX.out],by have h:=Yt.out; unfold Q.gX at h; rw [Bool.and_eq_true] at h; exact h.1,Int.le_refl _,by omega⟩
      case round =>
       clear M8 p1
       rename World => w20
       obtain ⟨j,s1,at_,hj,rfl,VE,heq,hparts,ha0,ha1⟩:=hrel
       have RY:=ah.mk VE
       have Hg:=Lib.hid heq
       clear VE heq
       by_cases hjl : j < l1.length
       ·obtain ⟨Ep,rfl⟩ : ∃ g,gk = g + 1:=⟨gk - 1,by omega⟩
        have HG:=Lib.hid hj
        obtain ⟨f,hf⟩ : ∃ f,l1[j]? = some f:=⟨_,List.getElem?_eq_getElem hjl⟩
        have HDR:=Lib.hid (show l1.drop j = f :: l1.drop (j + 1) by
         obtain ⟨a1,a2⟩:=List.getElem?_eq_some_iff.1 hf
         rw [List.drop_eq_getElem_cons a1,a2])
        rw [HDR.out,Q.dG] at hparts
        simp only [Bool.and_eq_true,decide_eq_true_eq] at hparts
        obtain ⟨⟨⟨rfl,hp2⟩,hp3⟩,WU⟩:=hparts
        have HP4:=Lib.hid WU
        have HF:=Lib.hid (And.intro ha0 (And.intro hp2 hp3))
        have aef:=Lib.hid (ahT.out f (List.mem_of_getElem? hf))
        have qj : (j : Int) < (l1.length : Int):=by omega
        have aiA:=Lib.hid (show wrap64 ((j : Int) + 1) = ((j + 1 : Nat) : Int) by rw [Int.natCast_add]; exact IntWalk.wrap64_in _ (by have:=Yr.out; omega))
        have HJ:=Lib.hid hjl
        obtain ⟨ad,rfl,x0,x1⟩:=DK HP.out.g1 (j : Int) (by omega) qj
        rw [Int.toNat_natCast] at x0 x1
        rw [Q.Jk hf] at x0 x1
        have HB1:=Lib.hid RY.out.below
        have y0:=(HB1.out.cell (World.block_lt_of_cell? w _ x0)).trans x0
        have y1:=(HB1.out.cell (World.block_lt_of_cell? w _ x1)).trans x1
        have HSL:=Lib.hid (wC Hg.out HBT.out)
        have Oj:=Lib.hid (Q.vT (j : Int) (by omega) (by have:=Yr.out; omega))
        clear hf hjl hj x0 x1 HB1 WU hp2 hp3 ha0 ha1
        go_wp2_with (first
         | ((with_reducible refine bI (N:=19) rfl ?_); refine bB RY 19 #[.int .i64 0,.int .i64 0] 41 ?_; clear RY; intro g19 wb Yg)
         | ((with_reducible refine aU (t:=41) (p:=19) rfl ?_); refine bR Yg 41 19 1 #[.int .i64 f.f0,.int .i64 f.f1] ?_; clear Yg y0 y1; intro wc M23)
         | fail)
        refine (Bl (Fv HS.out.2 M23.out.below) (j : Int) (by omega) (by have:=Yr.out; have:=HJ.out; omega)).mono ?_
        rintro e W24 ⟨rfl,ae6⟩
        have M24:=ah.mk (M23.out.call ae6)
        clear M23 ae6
        have ov : (9223372036854775807 < 6 + (Lib.itoa (j : Int)).length) = False:=eq_false (by have:=Oj.out; omega)
        have ov2 : (9223372036854775807 < 6 + (Lib.itoa (j : Int)).length + 1) = False:=eq_false (by have:=Oj.out; omega)
        go_wp2_with fail
        refine (vN M24.out _ (by have h1:=HSL.out; have h2:=Oj.out; rw [ByteArray.size_append,KW [102,117,110,99,32,102]]; simp only [List.length_cons,List.length_nil]; show _ + (_ + 1) ≤ _; omega)).mono ?_
        rintro e W25 ⟨rfl,Qk⟩
        rw [show ((⟨#[102,117,110,99,32,102]⟩ : ByteArray) ++ ⟨(Lib.itoa (j : Int)).toArray⟩ ++ ⟨#[10]⟩).data.toList = [102,117,110,99,32,102] ++ Lib.itoa (j : Int) ++ [10] by simp] at Qk
        have M26:=ah.mk Qk
        clear M24 Qk ov ov2
        have HE2:=Lib.hid (show s1 ++ ([102,117,110,99,32,102] ++ Lib.itoa (j : Int) ++ [10]) ++ Q.sH tg f.f0 (Q.wordsOf l0 f) ++ Q.gq tg l0 (j + 1) (l1.drop (j + 1)) = Q.ig 0 l2 ++ Q.gq tg l0 0 l1 by
         rw [← Hg.out,Q.IZ HDR.out,Q.OW]
         simp)
        have Un:=Lib.hid (wC HE2.out HBT.out)
        have z0:=M26.out.mem.mem.cell 1 rfl 0
        clear HSL Hg
        go_wp2_with fail
        go_loopg [20] (f.f1 - f.f0).toNat (fun g v20 wr => ∃ (i : Nat) (s2 : List UInt8),i + g = (f.f1 - f.f0).toNat ∧ v20 = .int .i64 (f.f0 + i) ∧ qx w wr [(g1,#[.slice A0 l0.length c0,.slice (some ad) l1.length c1,.slice A2 l2.length c2],26),(g19,#[.int .i64 f.f0,.int .i64 f.f1],41)] [(gm,ob)] b s2 ∧ s2 ++ Q.sH tg (f.f0 + i) ((Q.wordsOf l0 f).drop i) = s1 ++ ([102,117,110,99,32,102] ++ Lib.itoa (j : Int) ++ [10]) ++ Q.sH tg f.f0 (Q.wordsOf l0 f))
        case atStart => exact ⟨0,_,Nat.zero_add _,by rw [Int.natCast_zero,Int.add_zero],M26.out,by rw [List.drop_zero,Int.natCast_zero,Int.add_zero]⟩
        case round =>
         clear M26 z0
         rename World => w27
         obtain ⟨i,s2,hi,rfl,M27,heq⟩:=hrel
         have M28:=ah.mk M27
         have Hg:=Lib.hid heq
         have z1:=M28.out.mem.mem.cell 1 rfl 1
         clear M27 heq
         by_cases hil : (i : Int) < f.f1 - f.f0
         ·obtain ⟨G5,rfl⟩ : ∃ g,gk = g + 1:=⟨gk - 1,by omega⟩
          have HG2:=Lib.hid hi
          obtain ⟨x,hx,hxd,hxm⟩:=Q.CJ (l0:=l0) (f:=f) (i:=i) HF.out.1 hil HF.out.2.2
          have HXE:=Lib.hid (aef.out x hxm)
          have Om:=Lib.hid (HW.out x (List.mem_of_getElem? hx))
          have Qo:=Lib.hid hil
          have qa : f.f0 + (i : Int) < f.f1:=by omega
          have hof : f.f0 + (i : Int) = ((f.f0.toNat + i : Nat) : Int):=by have:=HF.out.1; omega
          have HLF:=Lib.hid (show aY.f 8 l0 l1 l2 (f.f0 + (i : Int)) = some (Q.bs (Q.sZ x),0) by rw [hof]; exact Q.Po hx Om.out.1 Om.out.2 HXE.out)
          have W20:=Lib.hid (show wrap64 (f.f0 + (i : Int) + 1) = f.f0 + ((i + 1 : Nat) : Int) by rw [IntWalk.wrap64_in _ (by have:=Vf.out; have:=HF.out; omega)]; omega)
          have HAW:=Lib.hid (show (Lit.int .i64 (f.f0 + (i : Int))).wf = true by
           show (decide (IntKind.i64.min ≤ f.f0 + (i : Int)) && decide (f.f0 + (i : Int) ≤ IntKind.i64.max)) = true
           rw [show IntKind.i64.min = -9223372036854775808 by decide,show IntKind.i64.max = 9223372036854775807 by decide,Bool.and_eq_true]
           exact ⟨decide_eq_true (by have:=HF.out; omega),decide_eq_true (by have:=Vf.out; have:=HF.out; omega)⟩)
          have HE3:=Lib.hid (show s2 ++ ((if tg (f.f0 + i) then [76] ++ Lib.itoa (f.f0 + i) ++ [58,10] else []) ++ (Q.sZ x ++ [10]) ++ Q.sH tg (f.f0 + ((i + 1 : Nat) : Int)) ((Q.wordsOf l0 f).drop (i + 1))) = s1 ++ ([102,117,110,99,32,102] ++ Lib.itoa (j : Int) ++ [10]) ++ Q.sH tg f.f0 (Q.wordsOf l0 f) by
           rw [← Hg.out,hxd,Q.sH,show f.f0 + ((i + 1 : Nat) : Int) = f.f0 + (i : Int) + 1 by omega])
          have iK:=Lib.hid (show s2.length + ((if tg (f.f0 + i) then [76] ++ Lib.itoa (f.f0 + i) ++ [58,10] else []).length + ((Q.sZ x).length + 1)) ≤ 1099511627776 by
           have h2:=Un.out
           rw [← HE3.out,List.length_append,List.length_append,List.length_append] at h2
           generalize (if tg (f.f0 + i) then [76] ++ Lib.itoa (f.f0 + i) ++ [58,10] else []) = A at h2 ⊢
           simp only [List.length_append,List.length_cons,List.length_nil] at h2
           omega)
          have abo:=Lib.hid (Q.vT (f.f0 + (i : Int)) (by have:=HF.out.1; omega) (by have:=Vf.out; have:=HF.out; omega))
          have hlk:=JJ.out.look (t:=96) (Maps.int_keyed Tryz.underlying3) Tryz.underlying96 Tryz.underlying4 (W:=w27) (g:=gm) (M28.out.mem.fix 0 _ rfl).1 (afT w27) (f.f0 + (i : Int)) (aa0 HAW.out)
          clear hx hxd hxm hil hi hof
          go_upto_if 130 with (fail)
          go_cut [] (fun wc => ∃ s3,s3 = s2 ++ (if tg (f.f0 + i) then [76] ++ Lib.itoa (f.f0 + i) ++ [58,10] else []) ∧ qx w wc [(g1,#[.slice A0 l0.length c0,.slice (some ad) l1.length c1,.slice A2 l2.length c2],26),(g19,#[.int .i64 f.f0,.int .i64 f.f1],41)] [(gm,ob)] b s3)
          case first =>
           clear hlk z1
           cases htg : tg (f.f0 + (i : Int)) with
           | true =>
            have HTG:=Lib.hid htg
            clear htg
            have ov : (9223372036854775807 < 1 + (Lib.itoa (f.f0 + (i : Int))).length) = False:=eq_false (by have:=abo.out; omega)
            have ov2 : (9223372036854775807 < 1 + (Lib.itoa (f.f0 + (i : Int))).length + 2) = False:=eq_false (by have:=abo.out; omega)
            go_wp2_with fail
            refine (Bl (Fv HS.out.2 M28.out.below) (f.f0 + (i : Int)) (by have:=HF.out.1; omega) (by have:=Vf.out; have:=HF.out; have:=Qo.out; omega)).mono ?_
            rintro e W29 ⟨rfl,ae7⟩
            have M29:=ah.mk (M28.out.call ae7)
            clear M28 ae7
            go_wp2_with fail
            refine (vN M29.out _ (by have h1:=iK.out; have h2:=abo.out; rw [ByteArray.size_append,KW [76]]; simp only [List.length_cons,List.length_nil]; show _ + (_ + 2) ≤ _; omega)).mono ?_
            rintro e W30 ⟨rfl,M30⟩
            rw [show ((⟨#[76]⟩ : ByteArray) ++ ⟨(Lib.itoa (f.f0 + (i : Int))).toArray⟩ ++ ⟨#[58,10]⟩).data.toList = [76] ++ Lib.itoa (f.f0 + (i : Int)) ++ [58,10] by simp] at M30
            go_wp2
            go_meet
            case rel => exact ⟨s2 ++ ([76] ++ Lib.itoa (f.f0 + (i : Int)) ++ [58,10]),by rw [if_pos HTG.out],M30⟩
           | false =>
            have HTG:=Lib.hid htg
            clear htg
            go_wp2
            go_meet
            case rel => exact ⟨s2,by rw [if_neg (by rw [HTG.out]; simp),List.append_nil],M28.out⟩
          case rest =>
           clear M28 hlk z1
           rename World => w31
           obtain ⟨s3,hs3,M31⟩:=hcut
           have M32:=ah.mk M31
           have HE4:=Lib.hid (show s3 ++ (Q.sZ x ++ [10]) ++ Q.sH tg (f.f0 + ((i + 1 : Nat) : Int)) ((Q.wordsOf l0 f).drop (i + 1)) = s1 ++ ([102,117,110,99,32,102] ++ Lib.itoa (j : Int) ++ [10]) ++ Q.sH tg f.f0 (Q.wordsOf l0 f) by
            rw [← HE3.out,hs3]
            simp only [List.append_assoc])
           obtain ⟨z,hz⟩ : ∃ z,z = Q.bs (Q.sZ x):=⟨_,rfl⟩
           have ah1:=Lib.hid (show aY.f 8 l0 l1 l2 (f.f0 + (i : Int)) = some (z,0) by rw [hz]; exact HLF.out)
           have HZ:=Lib.hid (show (z ++ ⟨#[10]⟩).data.toList = Q.sZ x ++ [10] by rw [hz]; exact Qx _ [10])
           have aes:=Lib.hid (show s3.length + (z.size + 1) ≤ 1099511627776 by
            have h1:=iK.out
            rw [hz,Q.eX,hs3,List.length_append]
            omega)
           have ov : (9223372036854775807 < z.size + 1) = False:=eq_false (by have:=aes.out; omega)
           have HP2:=Lib.hid (HP.out.below M31.below)
           have p0:=M32.out.mem.mem.cell 0 rfl 0
           have p1:=M32.out.mem.mem.cell 0 rfl 1
           have p2:=M32.out.mem.mem.cell 0 rfl 2
           clear hs3 hz M31 HLF HE3 Hg
           go_wp2_with fail
           refine (GA.aY.calls 8 _ _ _ _ _ _ _ _ _ _ _ _ _ (HS.out.below M32.out.below) HP2.out.g0 HP2.out.h0 HP2.out.g1 HP2.out.h1 HP2.out.g2 HP2.out.h2 ah1.out).mono ?_
           rintro e W33 ⟨rfl,ae9⟩
           have M33:=ah.mk (M32.out.call ae9)
           clear M32 ae9 HP2 p0 p1 p2
           go_wp2_with fail
           refine (vN M33.out _ (by have h1:=aes.out; rw [ByteArray.size_append]; show _ + (_ + 1) ≤ _; omega)).mono ?_
           rintro e W34 ⟨rfl,Yy⟩
           rw [HZ.out] at Yy
           have M35:=ah.mk Yy
           clear M33 Yy ov
           go_wp2
           go_roundg G5
           case measure => omega
           case rel => exact ⟨i + 1,_,by have:=HG2.out; omega,by rw [W20.out],M35.out,HE4.out⟩
         ·have qa : ¬ f.f0 + (i : Int) < f.f1:=by omega
          have hie : i = (f.f1 - f.f0).toNat:=by omega
          have HS2:=Lib.hid (show s2 ++ Q.gq tg l0 (j + 1) (l1.drop (j + 1)) = Q.ig 0 l2 ++ Q.gq tg l0 0 l1 by
           have h:=Hg.out
           rw [hie,List.drop_eq_nil_of_le (by rw [Q.xE HF.out.1 (by have:=HF.out.2.1; omega) HF.out.2.2]; exact Nat.le_refl _),Q.sH,List.append_nil] at h
           rw [h]; exact HE2.out)
          clear hil hi hie Hg
          go_wp2
          go_roundg Ep
          case measure => omega
          case rel => exact ⟨j + 1,s2,f.f1,by have:=HG.out; omega,by rw [aiA.out],M28.out.forget 1,HS2.out,HP4.out,by have:=HF.out; omega,HF.out.2.2⟩
       ·obtain rfl : j = l1.length:=by omega
        have hs1 : s1 = Q.ig 0 l2 ++ Q.gq tg l0 0 l1:=by
         have h:=Hg.out
         rw [List.drop_length,Q.gq,List.append_nil] at h
         exact h
        have HS1:=Lib.hid hs1
        have qj : ¬ (l1.length : Int) < (l1.length : Int):=by omega
        clear hjl hj hparts ha0 ha1 Hg hs1
        go_wp2_with fail
        refine (UO RY.out).mono ?_
        rintro e W22 ⟨rfl,Wq⟩
        have Yg:=ah.mk (RY.out.call Wq)
        clear RY Wq
        by_cases hlong : 262144 < s1.length
        ·have HR:=Lib.hid (show Q.wF l0 l1 l2 = ([],75) by rw [aey.out,if_pos (by rw [← HS1.out]; exact hlong)])
         have ql : (s1.length : Int) > 262144:=by omega
         clear hlong
         go_wp2
         go_ret2
         rw [HR.out]
         exact ⟨rfl,Yg.out.below⟩
        ·have HR:=Lib.hid (show Q.wF l0 l1 l2 = (s1,0) by rw [aey.out,if_neg (by rw [← HS1.out]; exact hlong),← HS1.out])
         have ql : ¬ (s1.length : Int) > 262144:=by omega
         clear hlong
         go_wp2_with fail
         refine (Tryz.Builder_String_any w.heap.size b s1 W22 Yg.out.Qz Yg.out.below.size).mono ?_
         rintro e W23 ⟨rfl,aiT⟩
         have hbw:=Uy Yg.out.below aiT
         go_wp2
         go_ret2
         rw [HR.out]
         exact ⟨rfl,hbw⟩
     ·have HR:=Lib.hid (show Q.wF l0 l1 l2 = ([],bad) from Q.ZX Yt.out HTO.out HSF.out hbad)
      go_wp2
      go_ret2
      rw [HR.out]
      exact ⟨rfl,M8.out.below⟩
end Go.Proofs.YtdbpglhdicmhhaaGreatDoor.qp
end
