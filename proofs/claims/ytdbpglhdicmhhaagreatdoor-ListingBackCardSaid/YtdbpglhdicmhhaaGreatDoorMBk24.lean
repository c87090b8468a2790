import Derived.Test.YtdbpglhdicmhhaaGreatDoorMBk12
import Derived.Test.YtdbpglhdicmhhaaGreatDoorMBk10
import Derived.Test.YtdbpglhdicmhhaaGreatDoorMBk23
import Derived.Test.YtdbpglhdicmhhaaGreatDoorMBk17
import Derived.Lib.ItoaLen
import Derived.IntWalk
set_option linter.unusedVariables false
set_option linter.unusedSimpArgs false
section
namespace Go.Proofs.YtdbpglhdicmhhaaGreatDoor.Q
open Go.RowKit Go.Lib Go.Proofs.YtdbpglhdicmhhaaGreatDoor.GA
theorem itoa_le (n : Int) (h0 : -9223372036854775808 ≤ n) (h1 : n ≤ 9223372036854775807) : (itoa n).length ≤ 21:=by
 have key : ∀ u : Nat,u < 18446744073709551616 → (decDigits u).length ≤ 20:=fun u hu => by
  rw [decDigits_length]
  exact Lib.nDigits_le20 _ (by omega)
 by_cases h : n < 0
 ·obtain ⟨u,rfl⟩ : ∃ u : Nat,n = -(u : Int):=⟨n.natAbs,by omega⟩
  rw [itoa_neg u (by omega),List.length_cons]
  have:=key u (by omega); omega
 ·obtain ⟨u,rfl⟩ : ∃ u : Nat,n = u:=⟨n.toNat,by omega⟩
  rw [itoa_nonneg]
  have:=key u (by omega); omega
theorem tabs_step {l : List S44} {i : Nat} {t : S44} (h : l.drop i = t :: l.drop (i + 1)) : tabsL i (l.drop i) = tabL i t ++ tabsL (i + 1) (l.drop (i + 1)):=by rw [h,tabsL]
theorem funcs_step {tg : Int → Bool} {l0 : List Int} {l : List S41} {i : Nat} {f : S41} (h : l.drop i = f :: l.drop (i + 1)) : funcsL tg l0 i (l.drop i) = funcL tg l0 i f ++ funcsL tg l0 (i + 1) (l.drop (i + 1)):=by rw [h,funcsL]
theorem tabsOk_step {l : List S44} {i : Nat} {t : S44} (h : l[i]? = some t) : tabsOk (l.take (i + 1)) = (tabsOk (l.take i) && t.f0.all caseOk):=by
 unfold tabsOk
 rw [List.take_add_one,h,List.all_append]
 simp
theorem tabsOk_bad {l : List S44} {i : Nat} {t : S44} (h : l[i]? = some t) (hb : t.f0.all caseOk = false) : tabsOk l = false:=by
 unfold tabsOk
 rw [List.all_eq_false]
 exact ⟨t,List.mem_of_getElem? h,by rw [hb]; simp⟩
theorem scanA_bad {nf nt : Nat} {b e : Int} : ∀ (r : List Int) (bad : Int) (tg : Int → Bool) {x : Int × (Int → Bool)},scanA nf nt b e r bad tg = some x → x.1 = 0 → bad = 0 ∧ ∀ w ∈ r,dErr w = 0
 | [],bad,tg,x,h,hx => by
  rw [scanA] at h
  obtain rfl:=Option.some.inj h
  exact ⟨hx,fun w hw => by cases hw⟩
 | w :: r,bad,tg,x,h,hx => by
  rw [scanA] at h
  split at h
  ·rename_i he
   have h1:=(scanA_bad r _ _ h hx).1
   split at h1
   ·exact absurd h1 he
   ·rename_i hb; exact absurd h1 hb
  ·rename_i he
   split at h
   ·obtain ⟨h1,h2⟩:=scanA_bad r _ _ h hx
    refine ⟨h1,fun y hy => ?_⟩
    rcases List.mem_cons.1 hy with rfl | hy
    ·exact Decidable.not_not.1 he
    ·exact h2 y hy
   ·cases h
theorem scanF_bad {l0 : List Int} {nf nt : Nat} : ∀ (r : List S41) (bad : Int) (tg : Int → Bool) {x : Int × (Int → Bool)},scanF l0 nf nt r bad tg = some x → x.1 = 0 → bad = 0 ∧ ∀ f ∈ r,∀ w ∈ wordsOf l0 f,dErr w = 0
 | [],bad,tg,x,h,hx => by
  rw [scanF] at h
  obtain rfl:=Option.some.inj h
  exact ⟨hx,fun f hf => by cases hf⟩
 | f :: r,bad,tg,x,h,hx => by
  rw [scanF] at h
  obtain ⟨y,hy,h2⟩:=Option.bind_eq_some_iff.1 h
  obtain ⟨h3,h4⟩:=scanF_bad r _ _ h2 hx
  obtain ⟨h5,h6⟩:=scanA_bad _ _ _ hy h3
  refine ⟨h5,fun g hg => ?_⟩
  rcases List.mem_cons.1 hg with rfl | hg
  ·exact h6
  ·exact h4 g hg
theorem prn_tabs {l0 : List Int} {l1 : List S41} {l2 : List S44} (h : tabsOk l2 = false) : prnV l0 l1 l2 = ([],1):=by
 unfold prnV
 rw [h,if_pos (by simp)]
theorem prn_scan {l0 : List Int} {l1 : List S41} {l2 : List S44} (h1 : partsV l0 l1 = true) (h2 : tabsOk l2 = true) : prnV l0 l1 l2 = match scanF l0 l1.length l2.length l1 0 (fun _ => false) with
  | none => ([],1)
  | some (bad,tg) => if bad ≠ 0 then ([],bad) else if 262144 < (tabsL 0 l2 ++ funcsL tg l0 0 l1).length then ([],75) else (tabsL 0 l2 ++ funcsL tg l0 0 l1,0):=by
 unfold prnV
 rw [h1,h2,if_neg (by simp)]
 rfl
theorem prn_unfit {l0 : List Int} {l1 : List S41} {l2 : List S44} (h1 : partsV l0 l1 = true) (h2 : tabsOk l2 = true) (h3 : scanF l0 l1.length l2.length l1 0 (fun _ => false) = none) : prnV l0 l1 l2 = ([],1):=by rw [prn_scan h1 h2,h3]
theorem prn_bad {l0 : List Int} {l1 : List S41} {l2 : List S44} {bad : Int} {tg : Int → Bool} (h1 : partsV l0 l1 = true) (h2 : tabsOk l2 = true) (h3 : scanF l0 l1.length l2.length l1 0 (fun _ => false) = some (bad,tg)) (hb : bad ≠ 0) : prnV l0 l1 l2 = ([],bad):=by
 rw [prn_scan h1 h2,h3]; exact if_pos hb
theorem prn_ok {l0 : List Int} {l1 : List S41} {l2 : List S44} {tg : Int → Bool} (h1 : partsV l0 l1 = true) (h2 : tabsOk l2 = true) (h3 : scanF l0 l1.length l2.length l1 0 (fun _ => false) = some (0,tg)) : prnV l0 l1 l2 = if 262144 < (tabsL 0 l2 ++ funcsL tg l0 0 l1).length then ([],75) else (tabsL 0 l2 ++ funcsL tg l0 0 l1,0):=by
 rw [prn_scan h1 h2,h3]; exact if_neg (fun h => h rfl)
theorem pref_cases (o : Int) : (prefL o = [76] ∧ listing_prefix.f 2 o = some ⟨#[76]⟩) ∨ (prefL o ≠ [76] ∧ listing_prefix.f 2 o = some ⟨#[102]⟩) ∨ (prefL o ≠ [76] ∧ listing_prefix.f 2 o = some ⟨#[116]⟩) ∨ (prefL o ≠ [76] ∧ listing_prefix.f 2 o = some ⟨#[]⟩):=by
 rw [prefix_at 0]
 unfold prefL
 repeat' split
 ·exact .inl ⟨rfl,rfl⟩
 ·exact .inr (.inl ⟨by simp,rfl⟩)
 ·exact .inr (.inr (.inl ⟨by simp,rfl⟩))
 ·exact .inr (.inr (.inr ⟨by simp,rfl⟩))
theorem dec_imm {w : Int} (h0 : 0 ≤ w) (h1 : w < 4294967296) (he : dErr w = 0) : (Lit.int .i64 (dImm w)).wf = true:=by
 rcases decode_kinds w h0 h1 with ⟨k,a,b,c,m,_,h,_,_,_,hm⟩ | ⟨o,a,b,c,m,e,h,hne⟩
 ·have hd : dImm w = m:=by unfold dImm decV; rw [h]; rfl
  rw [hd]
  obtain ⟨h2,h3⟩:=hm
  show (decide (IntKind.i64.min ≤ m) && decide (m ≤ IntKind.i64.max)) = true
  rw [show IntKind.i64.min = -9223372036854775808 by decide,show IntKind.i64.max = 9223372036854775807 by decide,Bool.and_eq_true]
  exact ⟨decide_eq_true (by omega),decide_eq_true (by omega)⟩
 ·exact absurd (show e = 0 by unfold dErr decV at he; rw [h] at he; exact he) hne
theorem scan_err {nf nt : Nat} {b e w : Int} {r : List Int} {bad : Int} {tg : Int → Bool} (h : dErr w ≠ 0) : scanA nf nt b e (w :: r) bad tg = scanA nf nt b e r (if bad = 0 then dErr w else bad) tg:=by rw [scanA,if_pos h]
theorem scan_fit {nf nt : Nat} {b e w : Int} {r : List Int} {bad : Int} {tg : Int → Bool} (h : dErr w = 0) (hf : fitsV nf nt b e w = true) : scanA nf nt b e (w :: r) bad tg = scanA nf nt b e r bad (if prefL (dOp w) = [76] then fun y => decide (y = dImm w) || tg y else tg):=by rw [scanA,if_neg (fun x => x h),if_pos hf]
theorem scan_unfit {nf nt : Nat} {b e w : Int} {r : List Int} {bad : Int} {tg : Int → Bool} (h : dErr w = 0) (hf : fitsV nf nt b e w = false) : scanA nf nt b e (w :: r) bad tg = none:=by rw [scanA,if_neg (fun x => x h),hf]; rfl
theorem line_all {l0 : List Int} {l1 : List S41} {l2 : List S44} {i : Nat} {w : Int} (hw : l0[i]? = some w) (h0 : 0 ≤ w) (h1 : w < 4294967296) (he : dErr w = 0) : listing_Line.f 8 l0 l1 l2 (i : Int) = some (bs (lineW w),0):=by
 rcases decode_kinds w h0 h1 with ⟨k,a,b,c,m,hk,hd,fa,fb,fc,fm⟩ | ⟨o,a,b,c,m,e,hd,hne⟩
 ·rw [line_prog hw hk hd fa fb fc fm]
  have hv : decV w = ((k : Int) + 1,a,b,c,m,0):=by unfold decV; rw [hd]; rfl
  unfold lineW dOp dImm
  rw [hv]
  show _ = some (bs (lineL ((k : Int) + 1 - 1).toNat a b c m),0)
  rw [show ((k : Int) + 1 - 1).toNat = k by omega]
 ·exact absurd (show e = 0 by unfold dErr decV at he; rw [hd] at he; exact he) hne
theorem words_at {l0 : List Int} {f : S41} {i : Nat} (h0 : 0 ≤ f.f0) (hi : (i : Int) < f.f1 - f.f0) (h1 : f.f1 ≤ l0.length) : ∃ w,l0[f.f0.toNat + i]? = some w ∧ (wordsOf l0 f).drop i = w :: (wordsOf l0 f).drop (i + 1) ∧ w ∈ wordsOf l0 f:=by
 have hlt : f.f0.toNat + i < l0.length:=by omega
 have e : (wordsOf l0 f)[i]? = some l0[f.f0.toNat + i]:=by
  unfold wordsOf
  rw [List.getElem?_take,if_pos (by omega),List.getElem?_drop,List.getElem?_eq_getElem hlt]
 obtain ⟨a1,a2⟩:=List.getElem?_eq_some_iff.1 e
 refine ⟨l0[f.f0.toNat + i],List.getElem?_eq_getElem hlt,?_,List.mem_of_getElem? e⟩
 rw [List.drop_eq_getElem_cons a1,a2]
theorem words_len {l0 : List Int} {f : S41} (h0 : 0 ≤ f.f0) (h2 : f.f0 ≤ f.f1) (h1 : f.f1 ≤ l0.length) : (wordsOf l0 f).length = (f.f1 - f.f0).toNat:=by unfold wordsOf; rw [List.length_take,List.length_drop]; omega
end Go.Proofs.YtdbpglhdicmhhaaGreatDoor.Q
namespace Go.Proofs.YtdbpglhdicmhhaaGreatDoor.Hof
open Go.RowKit Go.Shelf Go.Proofs.YtdbpglhdicmhhaaGreatDoorW.PrintWords Go.Proofs.YtdbpglhdicmhhaaGreatDoorW.PrintLast Go.Proofs.YtdbpglhdicmhhaaGreatDoorW.PrintMore Hctx GA
section
variable {w w0 W : World} {l : List (Nat × Array Value × TypeId)} {fx : List (Nat × Obj)} {b : Nat} {s : List UInt8}
theorem write_mem (M : MemB w0 W l fx b s) (z : ByteArray) (hlen : s.length + z.size ≤ 140737488355328) :
  Calls Tryz.prog 47 #[.pointer (some ⟨b,0,none⟩),.string z] W fun e W' => e = .returned (.tuple #[.int .i64 z.size,.nilIface]) ∧ MemB w0 W' l fx b (s ++ z.data.toList) :=
 (Hbld.write_calls w0.heap.size b (Lib.byteCells s) z W M.bld (by rw [Lib.byteCells_length]; exact hlen) M.below.size).mono fun e W' ⟨he,hI,hb,hk⟩ => ⟨he,M.wrote (by
  have e : Lib.byteCells (s ++ z.data.toList) = Lib.byteCells s ++ Lib.strCells z:=by rw [Lib.strCells_eq]; exact List.map_append
  rw [e]; exact hI) hb hk⟩
set_option maxRecDepth 100000 in
theorem len_calls (M : MemB w0 W l fx b s) : Calls Tryz.prog 50 #[.pointer (some ⟨b,0,none⟩)] W fun e W' => e = .returned (.int .i64 (s.length : Int)) ∧ Below W.heap.size W W':=by
 have h : ∃ p A c,W.heap[b]? = some (.cells #[p,.slice A s.length c] 89 (0,0)):=by
  have key : ∀ p,Lib.BuilderAt 89 5 w0.heap.size b p (Lib.byteCells s) W → ∃ p A c,W.heap[b]? = some (.cells #[p,.slice A s.length c] 89 (0,0)):=fun p ⟨hB,v,hb,⟨hl,ho⟩,hne⟩ => by
   rw [Lib.byteCells_length] at ho
   rcases ho with ⟨ho,hn⟩ | ⟨g,cap,cur,ho,_⟩
   ·refine ⟨p,none,0,?_⟩
    rw [hb,ho,hn]
   ·exact ⟨p,_,_,by rw [hb,ho]⟩
  exact M.bld.elim (key _) (key _)
 obtain ⟨p,A,c,hb⟩:=h
 have c1 : W.cell? ⟨b,1,none⟩ = some (.slice A s.length c):=by rw [Lib.cell_of_heap hb]; rfl
 clear hb M
 go_enter Tryz.func50,Tryz.ntmps50
 go_wp2
 go_ret
 exact ⟨rfl,Below.refl _ _⟩
end
theorem full_len {a b c : List UInt8} {N : Nat} (h : a ++ b = c) (hc : c.length ≤ N) : a.length ≤ N:=by
 rw [← h,List.length_append] at hc; omega
theorem ba_app (a b : List UInt8) : (⟨a.toArray⟩ ++ ⟨b.toArray⟩ : ByteArray).data.toList = a ++ b:=by simp
theorem ba_size (a b : List UInt8) : (⟨a.toArray⟩ ++ ⟨b.toArray⟩ : ByteArray).size = a.length + b.length:=by simp [ByteArray.size_append]; rfl
structure PC (w : World) (A0 : Option Addr) (c0 : Nat) (l0 : List Int) (A1 : Option Addr) (c1 : Nat) (l1 : List S41) (A2 : Option Addr) (c2 : Nat) (l2 : List S44) : Prop where
 g0 : Kd.C (Kd.int .u32) w A0 l0.length l0
 h0 : l0.length ≤ c0
 g1 : Kd.C k41 w A1 l1.length l1
 h1 : l1.length ≤ c1
 g2 : Kd.C k44 w A2 l2.length l2
 h2 : l2.length ≤ c2
theorem PC.below {w W : World} {A0 A1 A2 : Option Addr} {c0 c1 c2 : Nat} {l0 : List Int} {l1 : List S41} {l2 : List S44} (h : PC w A0 c0 l0 A1 c1 l1 A2 c2 l2) (hb : Below w.heap.size w W) : PC W A0 c0 l0 A1 c1 l1 A2 c2 l2 :=
 ⟨Kd.C_below h.g0 hb,h.h0,Kd.C_below h.g1 hb,h.h1,Kd.C_below h.g2 hb,h.h2⟩
theorem below_two {w W W1 : World} (b0 : Below w.heap.size w W) (b1 : Below w.heap.size W W1) : Below w.heap.size w W1 :=
 ⟨b1.os.trans b0.os,b1.tape.trans b0.tape,b1.output.trans b0.output,Nat.le_trans b0.size b1.size,fun j hj => (b1.block j hj).trans (b0.block j hj)⟩
theorem intK3 {n : Int} (h : (Lit.int .i64 n).wf = true) : keyOf Tryz.prog 3 (.int .i64 n) = some (.int .i64 n):=Maps.keyOf_int_mk Tryz.underlying3 h
theorem intInj : ∀ x y : Int,Value.int .i64 x = Value.int .i64 y → x = y:=fun x y h => by injection h
theorem zero4 (w : World) : (zeroValue 4).run Tryz.prog w = .ok (.bool false) w:=by kernel_rfl
set_option maxHeartbeats 8000000 in
set_option maxRecDepth 100000 in
theorem print_calls (A0 : Option Addr) (c0 : Nat) (l0 : List Int) (A1 : Option Addr) (c1 : Nat) (l1 : List S41) (A2 : Option Addr) (c2 : Nat) (l2 : List S44) (w : World) (hS : Laid.LibStd w) (hP : PC w A0 c0 l0 A1 c1 l1 A2 c2 l2)
  (hwd : ∀ x ∈ l0,0 ≤ x ∧ x < 4294967296) (hn0 : l0.length ≤ 1099511627776) (hn1 : l1.length ≤ 8796093022208) (hn2 : l2.length ≤ 1099511627776) (hn3 : ∀ t ∈ l2,t.f0.length ≤ 1099511627776)
  (hb2 : (Q.tabsL 0 l2).length ≤ 1099511627776) (hb : Q.partsV l0 l1 = true → ∀ tg,(Q.tabsL 0 l2 ++ Q.funcsL tg l0 0 l1).length ≤ 1099511627776) :
  Calls Tryz.prog 17 #[.agg #[.slice A0 l0.length c0,.slice A1 l1.length c1,.slice A2 l2.length c2]] w fun e w' => e = .returned (.tuple #[.string (Q.bs (Q.prnV l0 l1 l2).1),.int .i64 (Q.prnV l0 l1 l2).2]) ∧ Below w.heap.size w w':=by
 have HS:=Lib.hid hS
 have HP:=Lib.hid hP
 have HW:=Lib.hid hwd
 have HN0:=Lib.hid hn0
 have HN1:=Lib.hid hn1
 have HN2:=Lib.hid hn2
 have HN3:=Lib.hid hn3
 have HB2:=Lib.hid hb2
 have HB:=Lib.hid hb
 have M0:=Aside0.mk (MemF.start [] w)
 have HPV:=Lib.hid (Q.parts_all l0 l1 l2 (by omega))
 clear hS hP hwd hn0 hn1 hn2 hn3 hb2 hb
 go_enter Tryz.func17,Tryz.ntmps17
 go_wp2_with (first
  | ((with_reducible refine gate_dst (N:=1) rfl ?_); refine fB M0 1 #[.slice A0 l0.length c0,.slice A1 l1.length c1,.slice A2 l2.length c2] 26 ?_; clear M0; intro g1 w1 M1; have p0:=M1.out.mem.cell 0 rfl 0; have p1:=M1.out.mem.cell 0 rfl 1; have p2:=M1.out.mem.cell 0 rfl 2)
  | fail)
 have HP1:=Lib.hid (HP.out.below M1.out.mem.below)
 refine (GA.listing_parts.calls _ A0 c0 l0 A1 c1 l1 A2 c2 l2 _ w1 HP1.out.g0 HP1.out.h0 HP1.out.g1 HP1.out.h1 HP1.out.g2 HP1.out.h2 HPV.out).mono ?_
 rintro e w2 ⟨rfl,hbw⟩
 have M2:=Aside0.mk (M1.out.call hbw)
 clear M1 hbw HP1 p0 p1 p2
 cases hpv : Q.partsV l0 l1 with
 | false =>
  have HR:=Lib.hid (show Q.prnV l0 l1 l2 = ([],1) by unfold Q.prnV; rw [hpv]; rfl)
  clear hpv
  go_wp2
  go_ret2
  rw [HR.out]
  exact ⟨rfl,M2.out.mem.below⟩
 | true =>
 have HPT:=Lib.hid hpv
 clear hpv
 go_wp2_with (first
  | ((with_reducible refine gate_dst (N:=4) rfl ?_); refine bNew M2 4 (by intro x hx; simp at hx; subst hx; exact ⟨(by decide : (26 : TypeId) ≠ 5),(by decide : (26 : TypeId) ≠ 89)⟩) ?_; clear M2; intro b w3 M3; have p2:=M3.out.mem.mem.cell 0 rfl 2)
  | fail)
 go_loopg [29] l2.length (fun g v29 wr => ∃ (i : Nat) (s : List UInt8),i + g = l2.length ∧ v29 = .int .i64 i ∧ MemB w wr [(g1,#[.slice A0 l0.length c0,.slice A1 l1.length c1,.slice A2 l2.length c2],26)] [] b s ∧ s ++ Q.tabsL i (l2.drop i) = Q.tabsL 0 l2 ∧ Q.tabsOk (l2.take i) = true)
 case atStart => exact ⟨0,[],Nat.zero_add _,rfl,M3.out,by rw [List.drop_zero,List.nil_append],rfl⟩
 case round =>
  clear M3 p2
  rename World => w4
  obtain ⟨i,s,hi,rfl,M4,heq,hok⟩:=hrel
  have M5:=Aside0.mk M4
  have HEQ:=Lib.hid heq
  have HOK:=Lib.hid hok
  clear M4 heq hok
  by_cases hil : i < l2.length
  ·obtain ⟨gk1,rfl⟩ : ∃ g,gk = g + 1:=⟨gk - 1,by omega⟩
   have HG:=Lib.hid hi
   obtain ⟨t,ht⟩ : ∃ t,l2[i]? = some t:=⟨_,List.getElem?_eq_getElem hil⟩
   have hrd : rd_T44 l2 (i : Int) = t:=by unfold rd_T44; rw [Int.toNat_natCast,List.getD_eq_getElem?_getD,ht]; rfl
   have HT:=Lib.hid ht
   have HDR:=Lib.hid (show l2.drop i = t :: l2.drop (i + 1) by
    obtain ⟨a1,a2⟩:=List.getElem?_eq_some_iff.1 ht
    rw [List.drop_eq_getElem_cons a1,a2])
   have HIL:=Lib.hid hil
   have qi : (i : Int) < (l2.length : Int):=by omega
   have W29:=Lib.hid (show wrap64 ((i : Int) + 1) = ((i + 1 : Nat) : Int) by rw [Int.natCast_add]; exact IntWalk.wrap64_in _ (by have:=HN2.out; omega))
   obtain ⟨ad,B0,d0,rfl,x0,x1,k0,g0⟩:=at_T44 HP.out.g2 (i : Int) (by omega) qi
   rw [Int.toNat_natCast] at x0 x1
   rw [hrd] at x0 x1 k0 g0
   have HB1:=Lib.hid M5.out.below
   have y0:=(HB1.out.cell (World.block_lt_of_cell? w _ x0)).trans x0
   have y1:=(HB1.out.cell (World.block_lt_of_cell? w _ x1)).trans x1
   have HGC:=Lib.hid g0
   have HKC:=Lib.hid k0
   have HTN:=Lib.hid (HN3.out t (List.mem_of_getElem? ht))
   have HIL1:=Lib.hid (Q.itoa_le (i : Int) (by omega) (by have:=HN2.out; omega))
   have HSL:=Lib.hid (full_len HEQ.out HB2.out)
   clear hrd ht hil hi x0 x1 g0 k0 HB1
   go_wp2_with (first
    | ((with_reducible refine gate_dst (N:=6) rfl ?_); refine bB M5 6 #[.slice none 0 0,.bool false] 44 ?_; clear M5; intro g6 wb M6)
    | ((with_reducible refine gate_store (t:=44) (p:=6) rfl ?_); refine bR M6 44 6 1 #[.slice B0 t.f0.length d0,.bool t.f1] ?_; clear M6 y0 y1; intro wc M7; have z0:=M7.out.mem.mem.cell 1 rfl 0; have z1:=M7.out.mem.mem.cell 1 rfl 1)
    | fail)
   refine (itoa_calls (tb_below HS.out.2 M7.out.below) (i : Int) (by omega) (by have:=HN2.out; have:=HIL.out; omega)).mono ?_
   rintro e W8 ⟨rfl,hb8⟩
   have M8:=Aside0.mk (M7.out.call hb8)
   clear M7 hb8 z0 z1
   have ov : (9223372036854775807 < 7 + (Lib.itoa (i : Int)).length) = False:=eq_false (by have:=HIL1.out; omega)
   go_wp2_with fail
   refine (write_mem M8.out _ (by have h1:=HSL.out; have h2:=HIL1.out; rw [ba_size [116,97,98,108,101,32,116]]; simp only [List.length_cons,List.length_nil]; omega)).mono ?_
   rintro e W9 ⟨rfl,M9⟩
   rw [ba_app [116,97,98,108,101,32,116]] at M9
   have M10:=Aside0.mk M9
   have z1:=M10.out.mem.mem.cell 1 rfl 1
   clear M8 M9 ov
   go_upto_if 39 with (fail)
   go_cut [] (fun wc => ∃ s1,s1 = s ++ ([116,97,98,108,101,32,116] ++ Lib.itoa (i : Int)) ++ (if t.f1 then [32,100,101,102,97,117,108,116] else []) ∧ MemB w wc [(g1,#[.slice A0 l0.length c0,.slice A1 l1.length c1,.slice (some ad) l2.length c2],26),(g6,#[.slice B0 t.f0.length d0,.bool t.f1],44)] [] b s1)
   case first =>
    cases ht1 : t.f1 with
    | true =>
     have HT1:=Lib.hid ht1
     rw [ht1] at z1
     clear ht1
     go_wp2_with fail
     refine (write_mem M10.out _ (by have h1:=HSL.out; have h2:=HIL1.out; simp only [List.length_append,List.length_cons,List.length_nil]; show _ + 8 ≤ _; omega)).mono ?_
     rintro e W11 ⟨rfl,M11⟩
     go_wp2
     go_meet
     case rel => exact ⟨s ++ ([116,97,98,108,101,32,116] ++ Lib.itoa (i : Int)) ++ [32,100,101,102,97,117,108,116],by rw [if_pos HT1.out],M11⟩
    | false =>
     have HT1:=Lib.hid ht1
     rw [ht1] at z1
     clear ht1
     go_wp2
     go_meet
     case rel => exact ⟨s ++ ([116,97,98,108,101,32,116] ++ Lib.itoa (i : Int)),by rw [if_neg (by rw [HT1.out]; simp),List.append_nil],M10.out⟩
   case rest =>
    clear M10 z1
    rename World => w11
    obtain ⟨s1,hs1,M11⟩:=hcut
    have HS1:=Lib.hid hs1
    have HSL1:=Lib.hid (show s1.length ≤ 1099511627876 by
     have h1:=HSL.out; have h2:=HIL1.out
     rw [hs1]
     split <;> simp only [List.length_append,List.length_cons,List.length_nil] <;> omega)
    clear hs1
    go_wp2_with fail
    refine (write_mem M11 _ (by have h1:=HSL1.out; show _ + 1 ≤ _; omega)).mono ?_
    rintro e W12 ⟨rfl,M12⟩
    have M13:=Aside0.mk (show MemB w W12 _ [] b (s1 ++ [10]) from M12)
    have z0:=M13.out.mem.mem.cell 1 rfl 0
    clear M11 M12
    have HE2:=Lib.hid (show (s1 ++ [10]) ++ Q.casesL t.f0 ++ Q.tabsL (i + 1) (l2.drop (i + 1)) = Q.tabsL 0 l2 by
     rw [← HEQ.out,Q.tabs_step HDR.out,HS1.out,Q.tabL]
     simp)
    have HSL2:=Lib.hid (full_len HE2.out HB2.out)
    clear HSL HEQ HSL1
    go_wp2_with fail
    go_loopg [45] t.f0.length (fun g v45 wr => ∃ (j : Nat) (s2 : List UInt8),j + g = t.f0.length ∧ v45 = .int .i64 j ∧ MemB w wr [(g1,#[.slice A0 l0.length c0,.slice A1 l1.length c1,.slice (some ad) l2.length c2],26),(g6,#[.slice B0 t.f0.length d0,.bool t.f1],44)] [] b s2 ∧ s2 ++ Q.casesL (t.f0.drop j) = (s1 ++ [10]) ++ Q.casesL t.f0 ∧ (t.f0.take j).all Q.caseOk = true)
    case atStart => exact ⟨0,_,Nat.zero_add _,rfl,M13.out,by rw [List.drop_zero],rfl⟩
    case round =>
     clear M13 z0
     rename World => w14
     obtain ⟨j,s2,hj,rfl,M14,heq,hok⟩:=hrel
     have M15:=Aside0.mk M14
     have HEQ:=Lib.hid heq
     have HOK2:=Lib.hid hok
     clear M14 heq hok
     by_cases hjl : j < t.f0.length
     ·obtain ⟨gk2,rfl⟩ : ∃ g,gk = g + 1:=⟨gk - 1,by omega⟩
      have HG2:=Lib.hid hj
      obtain ⟨x,hx⟩ : ∃ x,t.f0[j]? = some x:=⟨_,List.getElem?_eq_getElem hjl⟩
      have hrd : rd_T46 t.f0 (j : Int) = x:=by unfold rd_T46; rw [Int.toNat_natCast,List.getD_eq_getElem?_getD,hx]; rfl
      have HX:=Lib.hid hx
      have HDX:=Lib.hid (show t.f0.drop j = x :: t.f0.drop (j + 1) by
       obtain ⟨a1,a2⟩:=List.getElem?_eq_some_iff.1 hx
       rw [List.drop_eq_getElem_cons a1,a2])
      have HJL:=Lib.hid hjl
      have qj : (j : Int) < (t.f0.length : Int):=by omega
      have W45:=Lib.hid (show wrap64 ((j : Int) + 1) = ((j + 1 : Nat) : Int) by rw [Int.natCast_add]; exact IntWalk.wrap64_in _ (by have:=HTN.out; omega))
      obtain ⟨ad2,rfl,x0,x1,x2,x3⟩:=at_T46 HGC.out (j : Int) (by omega) qj
      rw [Int.toNat_natCast] at x0 x1 x2 x3
      rw [hrd] at x0 x1 x2 x3
      have HB1:=Lib.hid M15.out.below
      have y0:=(HB1.out.cell (World.block_lt_of_cell? w _ x0)).trans x0
      have y1:=(HB1.out.cell (World.block_lt_of_cell? w _ x1)).trans x1
      have y2:=(HB1.out.cell (World.block_lt_of_cell? w _ x2)).trans x2
      have y3:=(HB1.out.cell (World.block_lt_of_cell? w _ x3)).trans x3
      clear hrd hx hjl hj x0 x1 x2 x3 HB1
      go_wp2_with (first
       | ((with_reducible refine gate_dst (N:=8) rfl ?_); refine bB M15 8 #[.bool false,.int .i64 0,.int .i64 0,.int .i64 0] 46 ?_; clear M15; intro g8 wb M16)
       | ((with_reducible refine gate_store (t:=46) (p:=8) rfl ?_); refine bR M16 46 8 2 #[.bool x.f0,.int .i64 x.f1,.int .i64 x.f2,.int .i64 x.f3] ?_; clear M16 y0 y1 y2 y3; intro wc M17; have z0:=M17.out.mem.mem.cell 2 rfl 0; have z1:=M17.out.mem.mem.cell 2 rfl 1; have z2:=M17.out.mem.mem.cell 2 rfl 2; have z3:=M17.out.mem.mem.cell 2 rfl 3)
       | fail)
      cases hok : Q.caseOk x with
      | false =>
       have HC:=Lib.hid (show listing_caseLine.f 8 x.f0 x.f1 x.f2 x.f3 = some (⟨#[]⟩,false) by rw [Q.caseLine_all,hok]; rfl)
       have HR:=Lib.hid (show Q.prnV l0 l1 l2 = ([],1) from Q.prn_tabs (Q.tabsOk_bad HT.out (by rw [List.all_eq_false]; exact ⟨x,List.mem_of_getElem? HX.out,by rw [hok]; simp⟩)))
       clear hok
       refine (GA.listing_caseLine.calls 8 _ _ _ _ _ _ _ (HS.out.below M17.out.below) HC.out).mono ?_
       rintro e W18 ⟨rfl,hb18⟩
       have M18:=Aside0.mk (M17.out.call hb18)
       clear M17 hb18 z0 z1 z2 z3
       go_wp2
       go_ret2
       rw [HR.out]
       exact ⟨rfl,M18.out.below⟩
      | true =>
       obtain ⟨z,hz⟩ : ∃ z,z = Q.bs (Q.caseL x):=⟨_,rfl⟩
       have HC:=Lib.hid (show listing_caseLine.f 8 x.f0 x.f1 x.f2 x.f3 = some (z,true) by rw [Q.caseLine_all,hok,hz]; rfl)
       have HZ:=Lib.hid (show (z ++ ⟨#[10]⟩).data.toList = Q.caseL x ++ [10] by rw [hz]; exact ba_app _ [10])
       have HCS:=Lib.hid (show s2 ++ (Q.caseL x ++ [10]) ++ Q.casesL (t.f0.drop (j + 1)) = (s1 ++ [10]) ++ Q.casesL t.f0 by
        rw [← HEQ.out,HDX.out]
        simp [Q.casesL])
       have HLN:=Lib.hid (show s2.length + (z.size + 1) ≤ 1099511627776 by
        have h1:=full_len HCS.out HSL2.out
        rw [hz,Q.size_bs]
        simp only [List.length_append,List.length_cons,List.length_nil] at h1
        omega)
       have HOX:=Lib.hid hok
       clear hok hz
       have ov : (9223372036854775807 < z.size + 1) = False:=eq_false (by have:=HLN.out; omega)
       refine (GA.listing_caseLine.calls 8 _ _ _ _ _ _ _ (HS.out.below M17.out.below) HC.out).mono ?_
       rintro e W18 ⟨rfl,hb18⟩
       have M18:=Aside0.mk (M17.out.call hb18)
       clear M17 hb18 z0 z1 z2 z3
       go_wp2_with fail
       refine (write_mem M18.out _ (by have h1:=HLN.out; rw [ByteArray.size_append]; show _ + (_ + 1) ≤ _; omega)).mono ?_
       rintro e W19 ⟨rfl,M19⟩
       rw [HZ.out] at M19
       have M20:=Aside0.mk M19
       clear M18 M19 ov
       go_wp2
       go_roundg gk2
       case measure => omega
       case rel => exact ⟨j + 1,_,by have:=HG2.out; omega,by rw [W45.out],M20.out.forget 2,HCS.out,by rw [List.take_add_one,HX.out,List.all_append,HOK2.out]; simp [HOX.out]⟩
     ·obtain rfl : j = t.f0.length:=by omega
      have HF:=Lib.hid (show s2 ++ Q.tabsL (i + 1) (l2.drop (i + 1)) = Q.tabsL 0 l2 by
       have h:=HEQ.out
       rw [List.drop_length] at h
       rw [← HE2.out,← h]
       simp [Q.casesL])
      have qj : ¬ (t.f0.length : Int) < (t.f0.length : Int):=by omega
      clear hjl hj
      go_wp2
      go_roundg gk1
      case measure => omega
      case rel => exact ⟨i + 1,s2,by have:=HG.out; omega,by rw [W29.out],M15.out.forget 1,HF.out,by rw [Q.tabsOk_step HT.out,HOK.out]; have h:=HOK2.out; rw [List.take_length] at h; rw [h]; rfl⟩
  ·obtain rfl : i = l2.length:=by omega
   have HTX:=Lib.hid (show s = Q.tabsL 0 l2 by
    have h:=HEQ.out
    rw [List.drop_length,Q.tabsL,List.append_nil] at h
    exact h)
   have HTO:=Lib.hid (show Q.tabsOk l2 = true by have h:=HOK.out; rwa [List.take_length] at h)
   have qi : ¬ (l2.length : Int) < (l2.length : Int):=by omega
   clear hil hi HOK HEQ
   have p1:=M5.out.mem.mem.cell 0 rfl 1
   go_wp2_with (first
    | (refine bMk M5 ?_; clear M5; intro gm w5 M6; have p1:=M6.out.mem.mem.cell 0 rfl 1)
    | fail)
   go_loopg [11,65] l1.length (fun g v11 v65 wr => ∃ (j : Nat) (bad : Int) (tg : Int → Bool) (n : Nat) (ob : Obj) (at_ : Int),j + g = l1.length ∧ v11 = .int .i64 bad ∧ v65 = .int .i64 j ∧ MemB w wr [(g1,#[.slice A0 l0.length c0,.slice A1 l1.length c1,.slice A2 l2.length c2],26)] [(gm,ob)] b s ∧ SetIs Tryz.prog 3 4 n ob (Value.int .i64) tg ∧ Q.scanF l0 l1.length l2.length (l1.drop j) bad tg = Q.scanF l0 l1.length l2.length l1 0 (fun _ => false) ∧ Q.partsFrom l0.length at_ (l1.drop j) = true ∧ 0 ≤ at_ ∧ at_ ≤ (l0.length : Int) ∧ (n : Int) ≤ at_)
   case atStart => exact ⟨0,0,_,0,_,0,Nat.zero_add _,rfl,rfl,M6.out,SetIs.empty _ _ _ _,by rw [List.drop_zero],by have h:=HPT.out; unfold Q.partsV at h; rw [Bool.and_eq_true] at h; exact h.1,Int.le_refl _,by omega,Int.le_refl _⟩
   case round =>
    clear M6 p1
    rename World => w7
    obtain ⟨j,bad,tg,n,ob,at_,hj,rfl,rfl,M7,hset,hscan,hparts,ha0,ha1,hna⟩:=hrel
    have M8:=Aside0.mk M7
    have HSET:=Lib.hid hset
    have HSC:=Lib.hid hscan
    clear M7 hset hscan
    by_cases hjl : j < l1.length
    ·obtain ⟨gk1,rfl⟩ : ∃ g,gk = g + 1:=⟨gk - 1,by omega⟩
     have HG:=Lib.hid hj
     obtain ⟨f,hf⟩ : ∃ f,l1[j]? = some f:=⟨_,List.getElem?_eq_getElem hjl⟩
     have HDR:=Lib.hid (show l1.drop j = f :: l1.drop (j + 1) by
      obtain ⟨a1,a2⟩:=List.getElem?_eq_some_iff.1 hf
      rw [List.drop_eq_getElem_cons a1,a2])
     rw [HDR.out,Q.partsFrom] at hparts
     simp only [Bool.and_eq_true,decide_eq_true_eq] at hparts
     obtain ⟨⟨⟨rfl,hp2⟩,hp3⟩,hp4⟩:=hparts
     have HP4:=Lib.hid hp4
     have HF:=Lib.hid (And.intro ha0 (And.intro hp2 (And.intro hp3 hna)))
     have qj : (j : Int) < (l1.length : Int):=by omega
     have W65:=Lib.hid (show wrap64 ((j : Int) + 1) = ((j + 1 : Nat) : Int) by rw [Int.natCast_add]; exact IntWalk.wrap64_in _ (by have:=HN1.out; omega))
     obtain ⟨ad,rfl,x0,x1⟩:=at_T41 HP.out.g1 (j : Int) (by omega) qj
     rw [Int.toNat_natCast] at x0 x1
     rw [Q.rdT41 hf] at x0 x1
     have HB1:=Lib.hid M8.out.below
     have y0:=(HB1.out.cell (World.block_lt_of_cell? w _ x0)).trans x0
     have y1:=(HB1.out.cell (World.block_lt_of_cell? w _ x1)).trans x1
     clear hf hjl hj x0 x1 HB1 hp4 hp2 hp3 ha0 ha1 hna
     go_wp2_with (first
      | ((with_reducible refine gate_dst (N:=14) rfl ?_); refine bB M8 14 #[.int .i64 0,.int .i64 0] 41 ?_; clear M8; intro g14 wb M9)
      | ((with_reducible refine gate_store (t:=41) (p:=14) rfl ?_); refine bR M9 41 14 1 #[.int .i64 f.f0,.int .i64 f.f1] ?_; clear M9 y0 y1; intro wc M10; have z0:=M10.out.mem.mem.cell 1 rfl 0)
      | fail)
     go_loopg [11,15] (f.f1 - f.f0).toNat (fun g v11 v15 wr => ∃ (i : Nat) (bad2 : Int) (tg2 : Int → Bool) (n2 : Nat) (ob2 : Obj),i + g = (f.f1 - f.f0).toNat ∧ v11 = .int .i64 bad2 ∧ v15 = .int .i64 (f.f0 + i) ∧ MemB w wr [(g1,#[.slice A0 l0.length c0,.slice (some ad) l1.length c1,.slice A2 l2.length c2],26),(g14,#[.int .i64 f.f0,.int .i64 f.f1],41)] [(gm,ob2)] b s ∧ SetIs Tryz.prog 3 4 n2 ob2 (Value.int .i64) tg2 ∧ Q.scanA l1.length l2.length f.f0 f.f1 ((Q.wordsOf l0 f).drop i) bad2 tg2 = Q.scanA l1.length l2.length f.f0 f.f1 (Q.wordsOf l0 f) bad tg ∧ (n2 : Int) ≤ f.f0 + i)
     case atStart => exact ⟨0,bad,tg,n,ob,Nat.zero_add _,rfl,by rw [Int.natCast_zero,Int.add_zero],M10.out,HSET.out,by rw [List.drop_zero],by have:=HF.out; omega⟩
     case round =>
      clear M10 z0 HSET
      rename World => w11
      obtain ⟨i,bad2,tg2,n2,ob2,hi,rfl,rfl,M11,hset,hscan,hn2⟩:=hrel
      have M12:=Aside0.mk M11
      have HSET:=Lib.hid hset
      have HSC2:=Lib.hid hscan
      have z1:=M12.out.mem.mem.cell 1 rfl 1
      clear M11 hset hscan
      by_cases hil : (i : Int) < f.f1 - f.f0
      ·obtain ⟨gk2,rfl⟩ : ∃ g,gk = g + 1:=⟨gk - 1,by omega⟩
       have HG2:=Lib.hid hi
       obtain ⟨x,hx,hxd,hxm⟩:=Q.words_at (l0:=l0) (f:=f) (i:=i) HF.out.1 hil HF.out.2.2.1
       have HDX:=Lib.hid hxd
       have HXR:=Lib.hid (HW.out x (List.mem_of_getElem? hx))
       have HIL:=Lib.hid hil
       have HN2X:=Lib.hid hn2
       have qa : f.f0 + (i : Int) < f.f1:=by omega
       have q0 : (0 : Int) ≤ f.f0 + (i : Int):=by have:=HF.out.1; omega
       have q1 : f.f0 + (i : Int) < (l0.length : Int):=by have:=HF.out.2.2.1; omega
       have W15:=Lib.hid (show wrap64 (f.f0 + (i : Int) + 1) = f.f0 + ((i + 1 : Nat) : Int) by rw [IntWalk.wrap64_in _ (by have:=HN0.out; omega)]; omega)
       obtain ⟨ad2,rfl,hcell⟩:=Kd.at_int HP.out.g0 (f.f0 + (i : Int)) q0 q1
       have hrx : rd l0 (f.f0 + (i : Int)) = x:=by
        unfold rd
        rw [show (f.f0 + (i : Int)).toNat = f.f0.toNat + i by have:=HF.out.1; omega,List.getD_eq_getElem?_getD,hx]; rfl
       rw [hrx] at hcell
       have yc:=(M12.out.below.cell (World.block_lt_of_cell? _ _ hcell)).trans hcell
       have p0:=M12.out.mem.mem.cell 0 rfl 0
       obtain ⟨o,a1,a2,a3,m,e,hdec⟩ : ∃ o a1 a2 a3 m e,Q.decV x = (o,a1,a2,a3,m,e):=⟨_,_,_,_,_,_,rfl⟩
       have HD:=Lib.hid (show word_Decode.f x = some (o,a1,a2,a3,m,e) by rw [← hdec]; exact Q.dec_all HXR.out.1 HXR.out.2)
       have HDV:=Lib.hid (show Q.dOp x = o ∧ Q.dImm x = m ∧ Q.dErr x = e by unfold Q.dOp Q.dImm Q.dErr; rw [hdec]; exact ⟨rfl,rfl,rfl⟩)
       clear hx hxd hxm hil hi hn2 hrx hcell hdec
       go_wp2_with fail
       refine (GA.word_Decode.calls x o a1 a2 a3 m e _ HD.out).mono ?_
       rintro e' W13 ⟨rfl,hb13⟩
       have M13:=Aside0.mk (M12.out.call hb13)
       clear M12 hb13 z1 p0 yc
       have HSTEP:=Lib.hid (show Q.scanA l1.length l2.length f.f0 f.f1 (x :: (Q.wordsOf l0 f).drop (i + 1)) bad2 tg2 = Q.scanA l1.length l2.length f.f0 f.f1 (Q.wordsOf l0 f) bad tg by rw [← HDX.out]; exact HSC2.out)
       clear HSC2
       by_cases he : e = 0
       ·subst he
        go_wp2_with (first
         | ((with_reducible refine gate_dst (N:=16) rfl ?_); refine bB M13 16 #[.int .i64 0,.int .i64 0,.int .i64 0,.int .i64 0,.int .i64 0] 70 ?_; clear M13; intro g16 wb M14)
         | ((with_reducible refine gate_store (t:=70) (p:=16) rfl ?_); refine bR M14 70 16 2 #[.int .i64 o,.int .i64 a1,.int .i64 a2,.int .i64 a3,.int .i64 m] ?_; clear M14; intro wc M15; have p0:=M15.out.mem.mem.cell 0 rfl 0; have p1:=M15.out.mem.mem.cell 0 rfl 1; have p2:=M15.out.mem.mem.cell 0 rfl 2; have z0:=M15.out.mem.mem.cell 1 rfl 0; have z1:=M15.out.mem.mem.cell 1 rfl 1; have t0:=M15.out.mem.mem.cell 2 rfl 0; have t1:=M15.out.mem.mem.cell 2 rfl 1; have t2:=M15.out.mem.mem.cell 2 rfl 2; have t3:=M15.out.mem.mem.cell 2 rfl 3; have t4:=M15.out.mem.mem.cell 2 rfl 4)
         | fail)
        have HFI:=Lib.hid (show listing_fits.f 2 l0 l1 l2 f.f0 f.f1 o a1 a2 a3 m = some (Q.fitsV l1.length l2.length f.f0 f.f1 x) by
         have h:=Q.fits_all l0 l1 l2 f.f0 f.f1 x a1 a2 a3
         rwa [HDV.out.1,HDV.out.2.1] at h)
        have HP2:=Lib.hid (HP.out.below M15.out.below)
        cases hfit : Q.fitsV l1.length l2.length f.f0 f.f1 x with
        | false =>
         have HR:=Lib.hid (show Q.prnV l0 l1 l2 = ([],1) from Q.prn_unfit HPT.out HTO.out (by
          rw [← HSC.out,HDR.out,Q.scanF,← HSTEP.out,Q.scan_unfit HDV.out.2.2 hfit]
          rfl))
         rw [hfit] at HFI
         clear hfit
         refine (GA.listing_fits.calls 2 _ _ _ _ _ _ _ _ _ _ _ _ _ _ _ _ _ _ HP2.out.g0 HP2.out.h0 HP2.out.g1 HP2.out.h1 HP2.out.g2 HP2.out.h2 HFI.out).mono ?_
         rintro e' W16 ⟨rfl,hb16⟩
         have M16:=Aside0.mk (M15.out.call hb16)
         clear M15 hb16 HP2 p0 p1 p2 z0 z1 t0 t1 t2 t3 t4
         go_wp2
         go_ret2
         rw [HR.out]
         exact ⟨rfl,M16.out.below⟩
        | true =>
         have HNX:=Lib.hid (show Q.scanA l1.length l2.length f.f0 f.f1 ((Q.wordsOf l0 f).drop (i + 1)) bad2 (if Q.prefL (Q.dOp x) = [76] then fun y => decide (y = Q.dImm x) || tg2 y else tg2) = Q.scanA l1.length l2.length f.f0 f.f1 (Q.wordsOf l0 f) bad tg by
          rw [← HSTEP.out,Q.scan_fit HDV.out.2.2 hfit])
         rw [hfit] at HFI
         have HMW:=Lib.hid (show (Lit.int .i64 m).wf = true by
          have h:=Q.dec_imm HXR.out.1 HXR.out.2 HDV.out.2.2
          rw [HDV.out.2.1] at h
          exact h)
         clear hfit HSTEP
         refine (GA.listing_fits.calls 2 _ _ _ _ _ _ _ _ _ _ _ _ _ _ _ _ _ _ HP2.out.g0 HP2.out.h0 HP2.out.g1 HP2.out.h1 HP2.out.g2 HP2.out.h2 HFI.out).mono ?_
         rintro e' W16 ⟨rfl,hb16⟩
         have M16:=Aside0.mk (M15.out.call hb16)
         have t0:=M16.out.mem.mem.cell 2 rfl 0
         clear M15 hb16 HP2 p0 p1 p2 z0 z1 t1 t2 t3 t4
         go_wp2_with fail
         rcases Q.pref_cases o with hp | hp | hp | hp
         ·have HPF:=Lib.hid hp.2
          have HNX2:=Lib.hid (show Q.scanA l1.length l2.length f.f0 f.f1 ((Q.wordsOf l0 f).drop (i + 1)) bad2 (fun y => decide (y = m) || tg2 y) = Q.scanA l1.length l2.length f.f0 f.f1 (Q.wordsOf l0 f) bad tg by
           have h:=HNX.out
           rwa [HDV.out.1,hp.1,if_pos rfl,HDV.out.2.1] at h)
          clear hp HNX
          refine (GA.listing_prefix.calls 2 o _ _ HPF.out).mono ?_
          rintro e' W17 ⟨rfl,⟨nd,rfl⟩⟩
          have M17:=Aside0.mk (M16.out.call (pw_below_drewN (Below.refl _ _) nd))
          clear M16 t0
          have t4:=M17.out.mem.mem.cell 2 rfl 4
          go_wp2_with (first
           | (refine bM M17 0 rfl HSET.out (Maps.int_keyed Tryz.underlying3) intInj Tryz.underlying96 Tryz.underlying4 (by have:=HN2X.out; have:=HN0.out; have:=HF.out.2.2.1; have:=HIL.out; unfold maxLen; omega) m (intK3 HMW.out) ?_; clear M17 t4 HSET; intro w18 ob3 M18 hset3; have HSET3:=Lib.hid hset3; clear hset3)
           | fail)
          go_roundg gk2
          case measure => omega
          case rel => exact ⟨i + 1,bad2,_,n2 + 1,ob3,by have:=HG2.out; omega,rfl,by rw [W15.out],M18.out.forget 2,HSET3.out,HNX2.out,by have:=HN2X.out; omega⟩
         all_goals
          have HPF:=Lib.hid hp.2
          have HNX2:=Lib.hid (show Q.scanA l1.length l2.length f.f0 f.f1 ((Q.wordsOf l0 f).drop (i + 1)) bad2 tg2 = Q.scanA l1.length l2.length f.f0 f.f1 (Q.wordsOf l0 f) bad tg by
           have h:=HNX.out
           rwa [HDV.out.1,if_neg hp.1] at h)
          clear hp HNX
          refine (GA.listing_prefix.calls 2 o _ _ HPF.out).mono ?_
          rintro e' W17 ⟨rfl,⟨nd,rfl⟩⟩
          have M17:=Aside0.mk (M16.out.call (pw_below_drewN (Below.refl _ _) nd))
          clear M16 t0
          go_wp2
          go_roundg gk2
          case measure => omega
          case rel => exact ⟨i + 1,bad2,tg2,n2,ob2,by have:=HG2.out; omega,rfl,by rw [W15.out],M17.out.forget 2,HSET.out,HNX2.out,by have:=HN2X.out; omega⟩
       ·have HNX:=Lib.hid (show Q.scanA l1.length l2.length f.f0 f.f1 ((Q.wordsOf l0 f).drop (i + 1)) (if bad2 = 0 then e else bad2) tg2 = Q.scanA l1.length l2.length f.f0 f.f1 (Q.wordsOf l0 f) bad tg by
         rw [← HSTEP.out,Q.scan_err (by rw [HDV.out.2.2]; exact he),HDV.out.2.2])
        clear HSTEP
        by_cases hb0 : bad2 = 0
        ·subst hb0
         rw [if_pos rfl] at HNX
         go_wp2_with (first
          | ((with_reducible refine gate_dst (N:=16) rfl ?_); refine bB M13 16 #[.int .i64 0,.int .i64 0,.int .i64 0,.int .i64 0,.int .i64 0] 70 ?_; clear M13; intro g16 wb M14)
          | ((with_reducible refine gate_store (t:=70) (p:=16) rfl ?_); refine bR M14 70 16 2 #[.int .i64 o,.int .i64 a1,.int .i64 a2,.int .i64 a3,.int .i64 m] ?_; clear M14; intro wc M15)
          | fail)
         go_roundg gk2
         case measure => omega
         case rel => exact ⟨i + 1,e,tg2,n2,ob2,by have:=HG2.out; omega,rfl,by rw [W15.out],M15.out.forget 2,HSET.out,HNX.out,by have:=HN2X.out; omega⟩
        ·rw [if_neg hb0] at HNX
         go_wp2_with (first
          | ((with_reducible refine gate_dst (N:=16) rfl ?_); refine bB M13 16 #[.int .i64 0,.int .i64 0,.int .i64 0,.int .i64 0,.int .i64 0] 70 ?_; clear M13; intro g16 wb M14)
          | ((with_reducible refine gate_store (t:=70) (p:=16) rfl ?_); refine bR M14 70 16 2 #[.int .i64 o,.int .i64 a1,.int .i64 a2,.int .i64 a3,.int .i64 m] ?_; clear M14; intro wc M15)
          | fail)
         go_roundg gk2
         case measure => omega
         case rel => exact ⟨i + 1,bad2,tg2,n2,ob2,by have:=HG2.out; omega,rfl,by rw [W15.out],M15.out.forget 2,HSET.out,HNX.out,by have:=HN2X.out; omega⟩
      ·have qa : ¬ f.f0 + (i : Int) < f.f1:=by omega
       have hie : i = (f.f1 - f.f0).toNat:=by omega
       have HNX:=Lib.hid (show some (bad2,tg2) = Q.scanA l1.length l2.length f.f0 f.f1 (Q.wordsOf l0 f) bad tg by
        rw [← HSC2.out,hie,List.drop_eq_nil_of_le (by rw [Q.words_len HF.out.1 (by have:=HF.out.2.1; omega) HF.out.2.2.1]; exact Nat.le_refl _),Q.scanA])
       have HN3X:=Lib.hid (show (n2 : Int) ≤ f.f1 by have:=HF.out.2.1; omega)
       clear hil hi hie hn2 HSC2
       go_wp2
       go_roundg gk1
       case measure => omega
       case rel => exact ⟨j + 1,bad2,tg2,n2,ob2,f.f1,by have:=HG.out; omega,rfl,by rw [W65.out],M12.out.forget 1,HSET.out,by rw [← HSC.out,HDR.out,Q.scanF,← HNX.out]; rfl,HP4.out,by have:=HF.out; omega,HF.out.2.2.1,HN3X.out⟩
    ·obtain rfl : j = l1.length:=by omega
     have HSF:=Lib.hid (show Q.scanF l0 l1.length l2.length l1 0 (fun _ => false) = some (bad,tg) by
      rw [← HSC.out,List.drop_length,Q.scanF])
     have qj : ¬ (l1.length : Int) < (l1.length : Int):=by omega
     clear hjl hj hparts ha0 ha1 hna HSC
     by_cases hbad : bad = 0
     ·subst hbad
      have HALL:=Lib.hid (Q.scanF_bad _ _ _ HSF.out rfl).2
      have HRES:=Lib.hid (Q.prn_ok HPT.out HTO.out HSF.out)
      have HBT:=Lib.hid (HB.out HPT.out tg)
      clear HSF
      have p1:=M8.out.mem.mem.cell 0 rfl 1
      go_wp2_with fail
      go_loopg [110] l1.length (fun g v110 wr => ∃ (j : Nat) (s1 : List UInt8) (at_ : Int),j + g = l1.length ∧ v110 = .int .i64 j ∧ MemB w wr [(g1,#[.slice A0 l0.length c0,.slice A1 l1.length c1,.slice A2 l2.length c2],26)] [(gm,ob)] b s1 ∧ s1 ++ Q.funcsL tg l0 j (l1.drop j) = Q.tabsL 0 l2 ++ Q.funcsL tg l0 0 l1 ∧ Q.partsFrom l0.length at_ (l1.drop j) = true ∧ 0 ≤ at_ ∧ at_ ≤ (l0.length : Int))
      case atStart => exact ⟨0,s,0,Nat.zero_add _,rfl,M8.out,by rw [List.drop_zero,HTX.out],by have h:=HPT.out; unfold Q.partsV at h; rw [Bool.and_eq_true] at h; exact h.1,Int.le_refl _,by omega⟩
      case round =>
       clear M8 p1
       rename World => w20
       obtain ⟨j,s1,at_,hj,rfl,M20,heq,hparts,ha0,ha1⟩:=hrel
       have M21:=Aside0.mk M20
       have HEQ:=Lib.hid heq
       clear M20 heq
       by_cases hjl : j < l1.length
       ·obtain ⟨gk1,rfl⟩ : ∃ g,gk = g + 1:=⟨gk - 1,by omega⟩
        have HG:=Lib.hid hj
        obtain ⟨f,hf⟩ : ∃ f,l1[j]? = some f:=⟨_,List.getElem?_eq_getElem hjl⟩
        have HDR:=Lib.hid (show l1.drop j = f :: l1.drop (j + 1) by
         obtain ⟨a1,a2⟩:=List.getElem?_eq_some_iff.1 hf
         rw [List.drop_eq_getElem_cons a1,a2])
        rw [HDR.out,Q.partsFrom] at hparts
        simp only [Bool.and_eq_true,decide_eq_true_eq] at hparts
        obtain ⟨⟨⟨rfl,hp2⟩,hp3⟩,hp4⟩:=hparts
        have HP4:=Lib.hid hp4
        have HF:=Lib.hid (And.intro ha0 (And.intro hp2 hp3))
        have HALLF:=Lib.hid (HALL.out f (List.mem_of_getElem? hf))
        have qj : (j : Int) < (l1.length : Int):=by omega
        have W110:=Lib.hid (show wrap64 ((j : Int) + 1) = ((j + 1 : Nat) : Int) by rw [Int.natCast_add]; exact IntWalk.wrap64_in _ (by have:=HN1.out; omega))
        have HJ:=Lib.hid hjl
        obtain ⟨ad,rfl,x0,x1⟩:=at_T41 HP.out.g1 (j : Int) (by omega) qj
        rw [Int.toNat_natCast] at x0 x1
        rw [Q.rdT41 hf] at x0 x1
        have HB1:=Lib.hid M21.out.below
        have y0:=(HB1.out.cell (World.block_lt_of_cell? w _ x0)).trans x0
        have y1:=(HB1.out.cell (World.block_lt_of_cell? w _ x1)).trans x1
        have HSL:=Lib.hid (full_len HEQ.out HBT.out)
        have HIL1:=Lib.hid (Q.itoa_le (j : Int) (by omega) (by have:=HN1.out; omega))
        clear hf hjl hj x0 x1 HB1 hp4 hp2 hp3 ha0 ha1
        go_wp2_with (first
         | ((with_reducible refine gate_dst (N:=19) rfl ?_); refine bB M21 19 #[.int .i64 0,.int .i64 0] 41 ?_; clear M21; intro g19 wb M22)
         | ((with_reducible refine gate_store (t:=41) (p:=19) rfl ?_); refine bR M22 41 19 1 #[.int .i64 f.f0,.int .i64 f.f1] ?_; clear M22 y0 y1; intro wc M23)
         | fail)
        refine (itoa_calls (tb_below HS.out.2 M23.out.below) (j : Int) (by omega) (by have:=HN1.out; have:=HJ.out; omega)).mono ?_
        rintro e W24 ⟨rfl,hb24⟩
        have M24:=Aside0.mk (M23.out.call hb24)
        clear M23 hb24
        have ov : (9223372036854775807 < 6 + (Lib.itoa (j : Int)).length) = False:=eq_false (by have:=HIL1.out; omega)
        have ov2 : (9223372036854775807 < 6 + (Lib.itoa (j : Int)).length + 1) = False:=eq_false (by have:=HIL1.out; omega)
        go_wp2_with fail
        refine (write_mem M24.out _ (by have h1:=HSL.out; have h2:=HIL1.out; rw [ByteArray.size_append,ba_size [102,117,110,99,32,102]]; simp only [List.length_cons,List.length_nil]; show _ + (_ + 1) ≤ _; omega)).mono ?_
        rintro e W25 ⟨rfl,M25⟩
        rw [show ((⟨#[102,117,110,99,32,102]⟩ : ByteArray) ++ ⟨(Lib.itoa (j : Int)).toArray⟩ ++ ⟨#[10]⟩).data.toList = [102,117,110,99,32,102] ++ Lib.itoa (j : Int) ++ [10] by simp] at M25
        have M26:=Aside0.mk M25
        clear M24 M25 ov ov2
        have HE2:=Lib.hid (show s1 ++ ([102,117,110,99,32,102] ++ Lib.itoa (j : Int) ++ [10]) ++ Q.codeL tg f.f0 (Q.wordsOf l0 f) ++ Q.funcsL tg l0 (j + 1) (l1.drop (j + 1)) = Q.tabsL 0 l2 ++ Q.funcsL tg l0 0 l1 by
         rw [← HEQ.out,Q.funcs_step HDR.out,Q.funcL]
         simp)
        have HSL2:=Lib.hid (full_len HE2.out HBT.out)
        have z0:=M26.out.mem.mem.cell 1 rfl 0
        clear HSL HEQ
        go_wp2_with fail
        go_loopg [20] (f.f1 - f.f0).toNat (fun g v20 wr => ∃ (i : Nat) (s2 : List UInt8),i + g = (f.f1 - f.f0).toNat ∧ v20 = .int .i64 (f.f0 + i) ∧ MemB w wr [(g1,#[.slice A0 l0.length c0,.slice (some ad) l1.length c1,.slice A2 l2.length c2],26),(g19,#[.int .i64 f.f0,.int .i64 f.f1],41)] [(gm,ob)] b s2 ∧ s2 ++ Q.codeL tg (f.f0 + i) ((Q.wordsOf l0 f).drop i) = s1 ++ ([102,117,110,99,32,102] ++ Lib.itoa (j : Int) ++ [10]) ++ Q.codeL tg f.f0 (Q.wordsOf l0 f))
        case atStart => exact ⟨0,_,Nat.zero_add _,by rw [Int.natCast_zero,Int.add_zero],M26.out,by rw [List.drop_zero,Int.natCast_zero,Int.add_zero]⟩
        case round =>
         clear M26 z0
         rename World => w27
         obtain ⟨i,s2,hi,rfl,M27,heq⟩:=hrel
         have M28:=Aside0.mk M27
         have HEQ:=Lib.hid heq
         have z1:=M28.out.mem.mem.cell 1 rfl 1
         clear M27 heq
         by_cases hil : (i : Int) < f.f1 - f.f0
         ·obtain ⟨gk2,rfl⟩ : ∃ g,gk = g + 1:=⟨gk - 1,by omega⟩
          have HG2:=Lib.hid hi
          obtain ⟨x,hx,hxd,hxm⟩:=Q.words_at (l0:=l0) (f:=f) (i:=i) HF.out.1 hil HF.out.2.2
          have HXE:=Lib.hid (HALLF.out x hxm)
          have HXR:=Lib.hid (HW.out x (List.mem_of_getElem? hx))
          have HIL:=Lib.hid hil
          have qa : f.f0 + (i : Int) < f.f1:=by omega
          have hof : f.f0 + (i : Int) = ((f.f0.toNat + i : Nat) : Int):=by have:=HF.out.1; omega
          have HLF:=Lib.hid (show listing_Line.f 8 l0 l1 l2 (f.f0 + (i : Int)) = some (Q.bs (Q.lineW x),0) by rw [hof]; exact Q.line_all hx HXR.out.1 HXR.out.2 HXE.out)
          have W20:=Lib.hid (show wrap64 (f.f0 + (i : Int) + 1) = f.f0 + ((i + 1 : Nat) : Int) by rw [IntWalk.wrap64_in _ (by have:=HN0.out; have:=HF.out; omega)]; omega)
          have HAW:=Lib.hid (show (Lit.int .i64 (f.f0 + (i : Int))).wf = true by
           show (decide (IntKind.i64.min ≤ f.f0 + (i : Int)) && decide (f.f0 + (i : Int) ≤ IntKind.i64.max)) = true
           rw [show IntKind.i64.min = -9223372036854775808 by decide,show IntKind.i64.max = 9223372036854775807 by decide,Bool.and_eq_true]
           exact ⟨decide_eq_true (by have:=HF.out; omega),decide_eq_true (by have:=HN0.out; have:=HF.out; omega)⟩)
          have HE3:=Lib.hid (show s2 ++ ((if tg (f.f0 + i) then [76] ++ Lib.itoa (f.f0 + i) ++ [58,10] else []) ++ (Q.lineW x ++ [10]) ++ Q.codeL tg (f.f0 + ((i + 1 : Nat) : Int)) ((Q.wordsOf l0 f).drop (i + 1))) = s1 ++ ([102,117,110,99,32,102] ++ Lib.itoa (j : Int) ++ [10]) ++ Q.codeL tg f.f0 (Q.wordsOf l0 f) by
           rw [← HEQ.out,hxd,Q.codeL,show f.f0 + ((i + 1 : Nat) : Int) = f.f0 + (i : Int) + 1 by omega])
          have HLN:=Lib.hid (show s2.length + ((if tg (f.f0 + i) then [76] ++ Lib.itoa (f.f0 + i) ++ [58,10] else []).length + ((Q.lineW x).length + 1)) ≤ 1099511627776 by
           have h2:=HSL2.out
           rw [← HE3.out,List.length_append,List.length_append,List.length_append] at h2
           generalize (if tg (f.f0 + i) then [76] ++ Lib.itoa (f.f0 + i) ++ [58,10] else []) = A at h2 ⊢
           simp only [List.length_append,List.length_cons,List.length_nil] at h2
           omega)
          have HIL2:=Lib.hid (Q.itoa_le (f.f0 + (i : Int)) (by have:=HF.out.1; omega) (by have:=HN0.out; have:=HF.out; omega))
          have hlk:=HSET.out.look (t:=96) (Maps.int_keyed Tryz.underlying3) Tryz.underlying96 Tryz.underlying4 (W:=w27) (g:=gm) (M28.out.mem.fix 0 _ rfl).1 (zero4 w27) (f.f0 + (i : Int)) (intK3 HAW.out)
          clear hx hxd hxm hil hi hof
          go_upto_if 130 with (fail)
          go_cut [] (fun wc => ∃ s3,s3 = s2 ++ (if tg (f.f0 + i) then [76] ++ Lib.itoa (f.f0 + i) ++ [58,10] else []) ∧ MemB w wc [(g1,#[.slice A0 l0.length c0,.slice (some ad) l1.length c1,.slice A2 l2.length c2],26),(g19,#[.int .i64 f.f0,.int .i64 f.f1],41)] [(gm,ob)] b s3)
          case first =>
           clear hlk z1
           cases htg : tg (f.f0 + (i : Int)) with
           | true =>
            have HTG:=Lib.hid htg
            clear htg
            have ov : (9223372036854775807 < 1 + (Lib.itoa (f.f0 + (i : Int))).length) = False:=eq_false (by have:=HIL2.out; omega)
            have ov2 : (9223372036854775807 < 1 + (Lib.itoa (f.f0 + (i : Int))).length + 2) = False:=eq_false (by have:=HIL2.out; omega)
            go_wp2_with fail
            refine (itoa_calls (tb_below HS.out.2 M28.out.below) (f.f0 + (i : Int)) (by have:=HF.out.1; omega) (by have:=HN0.out; have:=HF.out; have:=HIL.out; omega)).mono ?_
            rintro e W29 ⟨rfl,hb29⟩
            have M29:=Aside0.mk (M28.out.call hb29)
            clear M28 hb29
            go_wp2_with fail
            refine (write_mem M29.out _ (by have h1:=HLN.out; have h2:=HIL2.out; rw [ByteArray.size_append,ba_size [76]]; simp only [List.length_cons,List.length_nil]; show _ + (_ + 2) ≤ _; omega)).mono ?_
            rintro e W30 ⟨rfl,M30⟩
            rw [show ((⟨#[76]⟩ : ByteArray) ++ ⟨(Lib.itoa (f.f0 + (i : Int))).toArray⟩ ++ ⟨#[58,10]⟩).data.toList = [76] ++ Lib.itoa (f.f0 + (i : Int)) ++ [58,10] by simp] at M30
            go_wp2
            go_meet
            case rel => exact ⟨s2 ++ ([76] ++ Lib.itoa (f.f0 + (i : Int)) ++ [58,10]),by rw [if_pos HTG.out],M30⟩
           | false =>
            have HTG:=Lib.hid htg
            clear htg
            go_wp2
            go_meet
            case rel => exact ⟨s2,by rw [if_neg (by rw [HTG.out]; simp),List.append_nil],M28.out⟩
          case rest =>
           clear M28 hlk z1
           rename World => w31
           obtain ⟨s3,hs3,M31⟩:=hcut
           have M32:=Aside0.mk M31
           have HE4:=Lib.hid (show s3 ++ (Q.lineW x ++ [10]) ++ Q.codeL tg (f.f0 + ((i + 1 : Nat) : Int)) ((Q.wordsOf l0 f).drop (i + 1)) = s1 ++ ([102,117,110,99,32,102] ++ Lib.itoa (j : Int) ++ [10]) ++ Q.codeL tg f.f0 (Q.wordsOf l0 f) by
            rw [← HE3.out,hs3]
            simp only [List.append_assoc])
           obtain ⟨z,hz⟩ : ∃ z,z = Q.bs (Q.lineW x):=⟨_,rfl⟩
           have HLF2:=Lib.hid (show listing_Line.f 8 l0 l1 l2 (f.f0 + (i : Int)) = some (z,0) by rw [hz]; exact HLF.out)
           have HZ:=Lib.hid (show (z ++ ⟨#[10]⟩).data.toList = Q.lineW x ++ [10] by rw [hz]; exact ba_app _ [10])
           have HLN2:=Lib.hid (show s3.length + (z.size + 1) ≤ 1099511627776 by
            have h1:=HLN.out
            rw [hz,Q.size_bs,hs3,List.length_append]
            omega)
           have ov : (9223372036854775807 < z.size + 1) = False:=eq_false (by have:=HLN2.out; omega)
           have HP2:=Lib.hid (HP.out.below M31.below)
           have p0:=M32.out.mem.mem.cell 0 rfl 0
           have p1:=M32.out.mem.mem.cell 0 rfl 1
           have p2:=M32.out.mem.mem.cell 0 rfl 2
           clear hs3 hz M31 HLF HE3 HEQ
           go_wp2_with fail
           refine (GA.listing_Line.calls 8 _ _ _ _ _ _ _ _ _ _ _ _ _ (HS.out.below M32.out.below) HP2.out.g0 HP2.out.h0 HP2.out.g1 HP2.out.h1 HP2.out.g2 HP2.out.h2 HLF2.out).mono ?_
           rintro e W33 ⟨rfl,hb33⟩
           have M33:=Aside0.mk (M32.out.call hb33)
           clear M32 hb33 HP2 p0 p1 p2
           go_wp2_with fail
           refine (write_mem M33.out _ (by have h1:=HLN2.out; rw [ByteArray.size_append]; show _ + (_ + 1) ≤ _; omega)).mono ?_
           rintro e W34 ⟨rfl,M34⟩
           rw [HZ.out] at M34
           have M35:=Aside0.mk M34
           clear M33 M34 ov
           go_wp2
           go_roundg gk2
           case measure => omega
           case rel => exact ⟨i + 1,_,by have:=HG2.out; omega,by rw [W20.out],M35.out,HE4.out⟩
         ·have qa : ¬ f.f0 + (i : Int) < f.f1:=by omega
          have hie : i = (f.f1 - f.f0).toNat:=by omega
          have HS2:=Lib.hid (show s2 ++ Q.funcsL tg l0 (j + 1) (l1.drop (j + 1)) = Q.tabsL 0 l2 ++ Q.funcsL tg l0 0 l1 by
           have h:=HEQ.out
           rw [hie,List.drop_eq_nil_of_le (by rw [Q.words_len HF.out.1 (by have:=HF.out.2.1; omega) HF.out.2.2]; exact Nat.le_refl _),Q.codeL,List.append_nil] at h
           rw [h]; exact HE2.out)
          clear hil hi hie HEQ
          go_wp2
          go_roundg gk1
          case measure => omega
          case rel => exact ⟨j + 1,s2,f.f1,by have:=HG.out; omega,by rw [W110.out],M28.out.forget 1,HS2.out,HP4.out,by have:=HF.out; omega,HF.out.2.2⟩
       ·obtain rfl : j = l1.length:=by omega
        have hs1 : s1 = Q.tabsL 0 l2 ++ Q.funcsL tg l0 0 l1:=by
         have h:=HEQ.out
         rw [List.drop_length,Q.funcsL,List.append_nil] at h
         exact h
        have HS1:=Lib.hid hs1
        have qj : ¬ (l1.length : Int) < (l1.length : Int):=by omega
        clear hjl hj hparts ha0 ha1 HEQ hs1
        go_wp2_with fail
        refine (len_calls M21.out).mono ?_
        rintro e W22 ⟨rfl,hb22⟩
        have M22:=Aside0.mk (M21.out.call hb22)
        clear M21 hb22
        by_cases hlong : 262144 < s1.length
        ·have HR:=Lib.hid (show Q.prnV l0 l1 l2 = ([],75) by rw [HRES.out,if_pos (by rw [← HS1.out]; exact hlong)])
         have ql : (s1.length : Int) > 262144:=by omega
         clear hlong
         go_wp2
         go_ret2
         rw [HR.out]
         exact ⟨rfl,M22.out.below⟩
        ·have HR:=Lib.hid (show Q.prnV l0 l1 l2 = (s1,0) by rw [HRES.out,if_neg (by rw [← HS1.out]; exact hlong),← HS1.out])
         have ql : ¬ (s1.length : Int) > 262144:=by omega
         clear hlong
         go_wp2_with fail
         refine (Tryz.Builder_String_any w.heap.size b s1 W22 M22.out.bld M22.out.below.size).mono ?_
         rintro e W23 ⟨rfl,hb23⟩
         have hbw:=below_two M22.out.below hb23
         go_wp2
         go_ret2
         rw [HR.out]
         exact ⟨rfl,hbw⟩
     ·have HR:=Lib.hid (show Q.prnV l0 l1 l2 = ([],bad) from Q.prn_bad HPT.out HTO.out HSF.out hbad)
      go_wp2
      go_ret2
      rw [HR.out]
      exact ⟨rfl,M8.out.below⟩
end Go.Proofs.YtdbpglhdicmhhaaGreatDoor.Hof
end
