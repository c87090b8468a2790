import Derived.Test.YtdbpglhdicmhhaaGreatDoorMBk34
import Derived.Test.YtdbpglhdicmhhaaGreatDoorMBk4
set_option linter.unusedVariables false
set_option linter.unusedSimpArgs false
section
namespace Go.Proofs.YtdbpglhdicmhhaaGreatDoor.Hof
open Go.RowKit Go.Shelf Go.Proofs.YtdbpglhdicmhhaaGreatDoorW.PrintWords Go.Proofs.YtdbpglhdicmhhaaGreatDoorW.PrintLast Go.Proofs.YtdbpglhdicmhhaaGreatDoorW.PrintMore Hctx
open Go.Proofs.YtdbpglhdicmhhaaGreatDoor.GA
def Parsed (t : ByteArray) (w : World) (e : Ending) (W' : World) : Prop :=
 if 262144 < t.size then e = .returned (.tuple #[.agg #[.slice none 0 0,.slice none 0 0,.slice none 0 0],.int .i64 75,.int .i64 0]) ∧ Below w.heap.size w W'
 else if (final07 t).wrong ≠ 0 then e = .returned (.tuple #[.agg #[.slice none 0 0,.slice none 0 0,.slice none 0 0],.int .i64 (final07 t).wrong,.int .i64 (final07 t).line]) ∧ Below w.heap.size w W'
 else ∃ k gr l h,e = .returned (.tuple #[.agg #[h.vc,h.vf,h.vt],.int .i64 0,.int .i64 0]) ∧ k ≤ 262144 ∧ RdM k w W' gr l h (final07 t)
theorem rd_start {w W : World} {gr gf gt gl : Nat} {l : List (Nat × Array Value × TypeId)} (M : MemF esR w W ((gr,cellsR ⟨.slice none 0 0,.slice none 0 0,.slice none 0 0,.slice none 0 0,.slice none 0 0,.slice none 0 0,gf,gt,gl,.map #[] 0,.map #[] 0,.map #[] 0,[]⟩ st0,55) :: l) [(gf,.map #[] 0),(gt,.map #[] 0),(gl,.map #[] 0)] []) : RdM 0 w W gr l ⟨.slice none 0 0,.slice none 0 0,.slice none 0 0,.slice none 0 0,.slice none 0 0,.slice none 0 0,gf,gt,gl,.map #[] 0,.map #[] 0,.map #[] 0,[]⟩ st0:=by
 have M1:=(((((M.addNil (Kd.int .u32) 39 (by decide)).addNil (Kd.raw 2) 41 (by decide)).addNil (Kd.raw 2) 44 (by decide)).addNil (Kd.raw 5) 70 (by decide)).addNil (Kd.int .i64) 3 (by decide)).addNil (Kd.raw 5) 111 (by decide)
 exact ⟨M1,⟨Nat.le_refl _,Nat.le_refl _,Nat.le_refl _,Nat.le_refl _,Nat.le_refl _,Nat.le_refl _,fun t ht => by cases ht⟩,⟨MapIs.empty _ _ _,MapIs.empty _ _ _,MapIs.empty _ _ _⟩,rfl⟩
theorem RdM.mono {k k' : Nat} {w0 W : World} {gr : Nat} {l : List (Nat × Array Value × TypeId)} {h : Hd} {s : St} (M : RdM k w0 W gr l h s) (hk : k ≤ k') : RdM k' w0 W gr l h s:=⟨M.mem,M.few.mono hk,M.says.mono hk,M.len⟩
theorem RdM.drop {k : Nat} {w0 W : World} {gr : Nat} {a b c : Nat × Array Value × TypeId} {h : Hd} {s : St} (M : RdM k w0 W gr [a,b,c] h s) : RdM k w0 W gr [a,b] h s:=⟨M.mem.forget 3,M.few,M.says,M.len⟩
theorem kW {P : Program} {ops : Array Oper} {md : Region.Mode} {o : Oper} {a : Act} {Q : Exit → Act → World → Prop} {es : List TypeId} {w0 w : World} {l : List (Nat × Array Value × TypeId)} {rows : List Row} {fx : List (Nat × Obj)} {fuel : Nat} {listed : Array Bool} {ds : List Nat} {K : List (Addr × Value)} (HK : Aside0 (Know K w))
  (M : Aside0 (MemF es w0 w l fx rows)) (i : Nat) (t : TypeId) (p : Tmp) (k : Nat) (new : Array Value) {g : Nat} {old : Array Value} {tb : TypeId} {x : Operand} {rs : List Nat}
  (hKg : ∀ c ∈ K,c.1.block ≠ g ∧ c.1.block < w.heap.size) (h : ∀ w',Aside0 (MemF es w0 w' (l.set k (g,new,tb)) fx rows) → Aside0 (Know K w') → wpAnyLast P md ops Q (Know K) ds fuel (listed.setIfInBounds i true) a w')
  (hrest : AllReadyL P md ops Q (Know K) ds fuel listed a w rs)
  (hoi : ops[i]? = some o:=by rfl) (hn : o.dst = none:=by rfl) (hw : Region.wanted o (yielded ops a.tmps) = true:=by rfl) (hd : i ∉ ds:=by decide) (ho : o.op = .store t (.tmp p) x:=by rfl)
  (hk : l[k]? = some (g,old,tb):=by rfl) (hx : a.eval (.tmp p) = .pointer (some ⟨g,0,none⟩):=by rfl) (hv : a.eval x = .agg new:=by rfl)
  (hs : (P.info? t).map (·.size) = some new.size:=by kernel_rfl) (hso : old.size = new.size:=by rfl) (h1 : new.all (·.oneCell') = true:=by kernel_rfl) : AllReadyL P md ops Q (Know K) ds fuel listed a w (i :: rs):=by
 refine AllReadyL.cons hoi hd (fun K' hK => ?_) hrest
 rw [if_pos hw]
 have M0:=M.out.mem
 refine wp_store_row t (.tmp p) x ho g new hx hv tb old (M0.at k hk) hs hso h1 ?_
 rw [hn]
 have hkb:=keepBut_setRow w g new
 have M1:=Mem.keep M0 k hk (setRow_heap _ _ _ _ _ _ (M0.at k hk)) hkb (below_setRow' M0.below (M0.ge k hk) new)
 have hkn : ∀ W2,KeepBut w W2 g none → Know K W2:=fun W2 hW2 c hc => by
  have h1:=hW2.2 c.1.block (hKg c hc).2 (hKg c hc).1 (by simp)
  have h2:=HK.out c hc
  unfold World.cell? at h2 ⊢
  rw [h1]; exact h2
 exact hK.out _ _ (hkn _ hkb) (fun _ => h _ ⟨M.out.other M1 (fun q y hy => hkb.2 y.1 (heap_lt (M.out.fix q y hy).1) (M.out.ne_box k q hk hy) (by simp))⟩ ⟨hkn _ hkb⟩)
set_option maxHeartbeats 8000000 in
set_option maxRecDepth 100000 in
theorem parse_long (t : ByteArray) (ht : 262144 < t.size) (htz : t.size ≤ 9223372036854775807) (w : World) : Calls Tryz.prog 9 #[.string t] w (Parsed t w):=by
 have e4 : decide ((t.size : Int) > 262144) = true:=decide_eq_true (by omega)
 have HR:=Lib.hid ht
 have M0:=Aside0.mk (MemF.start esR w)
 clear ht
 go_enter Tryz.func9,Tryz.ntmps9
 go_wp2_with (first
  | ((with_reducible refine gate_dst (N:=2) rfl ?_); refine fB M0 2 #[.slice none 0 0,.slice none 0 0,.slice none 0 0] 26 ?_; clear M0; intro g2 w1 M1)
  | ((with_reducible refine gate_store (t:=26) (p:=2) rfl ?_); refine fW M1 26 2 0 #[.slice none 0 0,.slice none 0 0,.slice none 0 0] ?_ rfl rfl (by kernel_rfl); clear M1; intro w2 M2))
 refine bodyPost_ret (results_ctt rfl _ _ g2 26 #[.slice none 0 0,.slice none 0 0,.slice none 0 0] (0,0) _ rfl (M2.out.mem.at 0 rfl) Tryz.underlying26 rfl (by kernel_rfl)) rfl ?_
 unfold Parsed
 rw [if_pos HR.out]
 exact ⟨rfl,M2.out.mem.below⟩
set_option maxHeartbeats 8000000 in
set_option maxRecDepth 100000 in
theorem parse_short (t : ByteArray) (ht : ¬ 262144 < t.size) (w : World) (S0 : Std w) : Calls Tryz.prog 9 #[.string t] w (Parsed t w):=by
 have S:=Lib.hid S0
 have e4 : decide ((t.size : Int) > 262144) = false:=decide_eq_false (by omega)
 have HS:=Lib.hid (show t.size ≤ 262144 by omega)
 have HP:=Lib.hid (show ∀ e W',Parsed t w e W' = (if (final07 t).wrong ≠ 0 then e = .returned (.tuple #[.agg #[.slice none 0 0,.slice none 0 0,.slice none 0 0],.int .i64 (final07 t).wrong,.int .i64 (final07 t).line]) ∧ Below w.heap.size w W'
  else ∃ k gr l h,e = .returned (.tuple #[.agg #[h.vc,h.vf,h.vt],.int .i64 0,.int .i64 0]) ∧ k ≤ 262144 ∧ RdM k w W' gr l h (final07 t)) from fun e W' => if_neg ht)
 obtain ⟨res,hres⟩ : ∃ s,s = st0.run 0 (lines07 t):=⟨_,rfl⟩
 have HF:=Lib.hid (show final07 t = res.done by rw [hres]; rfl)
 have HRS:=Lib.hid hres
 have M0:=Aside0.mk (MemF.start esR w)
 clear ht S0 hres
 go_enter Tryz.func9,Tryz.ntmps9
 go_wp2_with (first
  | ((with_reducible refine gate_dst (N:=2) rfl ?_); refine fB M0 2 #[.slice none 0 0,.slice none 0 0,.slice none 0 0] 26 ?_; clear M0; intro g2 w1 M1)
  | ((with_reducible refine gate_dst (N:=13) rfl ?_); refine fMk M1 ?_; clear M1; intro gf w2 M2)
  | ((with_reducible refine gate_dst (N:=14) rfl ?_); refine fMk M2 ?_; clear M2; intro gt w3 M3)
  | ((with_reducible refine gate_dst (N:=15) rfl ?_); refine fMk M3 ?_; clear M3; intro gl w4 M4)
  | ((with_reducible refine gate_dst (N:=17) rfl ?_); refine fB M4 17 (cellsR ⟨.slice none 0 0,.slice none 0 0,.slice none 0 0,.slice none 0 0,.slice none 0 0,.slice none 0 0,gf,gt,gl,.map #[] 0,.map #[] 0,.map #[] 0,[]⟩ st0) 55 ?_; clear M4; intro gr w5 M5))
 have M6:=Aside0.mk (rd_start (l:=[(g2,#[.slice none 0 0,.slice none 0 0,.slice none 0 0],26)]) (M5.out.perm (List.Perm.swap _ _ _)))
 clear M5
 refine (pieces_mem M6.out.mem (by decide) (S.out.below M6.out.below) t HS.out).mono ?_
 rintro e W29 ⟨gs,rfl,M7_⟩
 have M7:=Aside0.mk (RdM.mk (k:=0) (s:=st0) (h:=⟨.slice none 0 0,.slice none 0 0,.slice none 0 0,.slice none 0 0,.slice none 0 0,.slice none 0 0,gf,gt,gl,.map #[] 0,.map #[] 0,.map #[] 0,[]⟩) (l:=[(g2,#[.slice none 0 0,.slice none 0 0,.slice none 0 0],26),(gs,((pcs t 10).map Value.string).toArray,9)]) M7_ M6.out.few M6.out.says M6.out.len)
 clear M6 M7_ e4
 obtain ⟨curs,hcur⟩ : ∃ c,c = ((pcs t 10).map Value.string).toArray:=⟨_,rfl⟩
 rw [← hcur] at M7
 have HCU:=Lib.hid (show ∀ (i : Nat) p,(pcs t 10)[i]? = some p → curs[i]? = some (.string p) from fun i p hp => by rw [hcur,List.getElem?_toArray,List.getElem?_map,hp]; rfl)
 clear hcur
 have HPN:=Lib.hid (show (pcs t 10).length ≤ 262145 by rw [pcs_len]; have:=Lib.countB_le ⟨#[10]⟩ (by decide) t.size t (Nat.le_refl _); have:=HS.out; omega)
 have HSUM:=Lib.hid (Nat.le_trans (pcs_sum t 10) HS.out)
 have HRS2:=Lib.hid (show St.run st0 0 (((pcs t 10).map (fun p => wds (cutL p))).drop 0) = res from HRS.out.symm)
 clear HRS
 generalize pcs t 10 = ps at HRS2 HCU HPN HSUM
 go_wp2_with fail
 go_loopw [21] (fun v21 wr => ∃ (i k : Nat) (s2 : St) (h : Hd),i ≤ ps.length ∧ v21 = .int .i64 (i : Int) ∧ Good s2 ∧ k ≤ sumZ (ps.take i) ∧ St.run s2 i ((ps.map (fun p => wds (cutL p))).drop i) = res ∧ RdM k w wr gr [(g2,#[.slice none 0 0,.slice none 0 0,.slice none 0 0],26),(gs,curs,9)] h s2) (fun v21 _ => ps.length - (intOf v21).toNat)
 case atStart => exact ⟨0,0,st0,_,Nat.zero_le _,rfl,good0,Nat.zero_le _,HRS2.out,M7.out⟩
 obtain ⟨i,k,s2,h,hi,rfl,hg,hk,hrn,M⟩:=hrel
 have HG:=Lib.hid hg
 have HKS:=Lib.hid hk
 have HRN:=Lib.hid hrn
 clear M7 hg hk hrn HRS2
 by_cases hir : i < ps.length
 ·obtain ⟨p,hp⟩ : ∃ p,ps[i]? = some p:=⟨_,List.getElem?_eq_getElem hir⟩
  have xs : wr.cell? ⟨gs,i,none⟩ = some (.string p):=(M.mem.mem.cell 2 rfl i).trans (HCU.out i p hp)
  have hpz : p.size ≤ 262144:=Nat.le_trans (size_le_sum (List.mem_of_getElem? hp)) HSUM.out
  have HPZ:=Lib.hid hpz
  have HCZ:=Lib.hid (Nat.le_trans (cutL_size p) hpz)
  have HST:=Lib.hid (sumZ_take ps i hp)
  have HDR:=Lib.hid (show (ps.map (fun p => wds (cutL p))).drop i = wds (cutL p) :: (ps.map (fun p => wds (cutL p))).drop (i + 1) from drop_cons (by rw [List.getElem?_map,hp]; rfl))
  have q2 : (i : Int) < (ps.length : Int):=by omega
  have HIR:=Lib.hid hir
  have W1:=Lib.hid (show wrap64 ((i : Int) + 1) = ((i + 1 : Nat) : Int) by rw [Int.natCast_add]; exact IntWalk.wrap64_in _ (by have:=HPN.out; omega))
  obtain ⟨mx,hmx⟩:=(S.out.below M.below).max
  have HCUT:=Lib.hid (fun W hm => Tryz.strings_Cut p ⟨#[59]⟩ mx W (by omega) hm)
  have HMX:=Lib.hid hmx
  have M1:=Aside0.mk M
  clear hp hir hpz hmx M
  obtain ⟨vc,vf,vt,vi,vo,vu,gf2,gt2,gl2,of,ot,ol,vs⟩:=h
  go_wp2_with fail
  refine (HCUT.out _ HMX.out).mono ?_
  rintro e W2 ⟨rfl,n2,rfl⟩
  have M2:=Aside0.mk (M1.out.call (pw_below_drewN (Below.refl _ _) n2))
  clear M1 xs
  revert M2
  generalize wr.drewN n2 = w30
  intro M2
  go_wp2_with fail
  refine (words_mem M2.out.mem (by decide) (cutL p) HCZ.out).mono ?_
  rintro e W3 ⟨gw,cur,rfl,M3_,hcu⟩
  have HCW:=Lib.hid hcu
  have M3:=Aside0.mk (RdM.mk (k:=k) (s:=s2) (h:=⟨vc,vf,vt,vi,vo,vu,gf2,gt2,gl2,of,ot,ol,vs⟩) (l:=[(g2,#[.slice none 0 0,.slice none 0 0,.slice none 0 0],26),(gs,curs,9),(gw,cur,9)]) M3_ M2.out.few M2.out.says M2.out.len)
  clear M2 M3_ hcu
  have w1x : wrap64 ((i : Int) + 1) = ((i + 1 : Nat) : Int):=W1.out
  cases hws : wds (cutL p) with
  | nil =>
   go_wp2_with (first
    | ((with_reducible refine gate_store (t:=3) (p:=38) rfl ?_); refine fS (Aside0.mk M3.out.mem) 3 (.tmp 38) 0 13 (.int .i64 ((i + 1 : Nat) : Int)) (rcells vc vf vt vi gf2 gt2 gl2 vo s2.cases s2.idle vu s2.wrong s2.line ((i + 1 : Nat) : Int)) ?_ rfl rfl rfl rfl; have HF3:=Lib.hid M3.out; clear M3; intro w40 M4))
   go_roundw
   case rel =>
    exact ⟨i + 1,k,{ s2 with now:=((i + 1 : Nat) : Int) },⟨vc,vf,vt,vi,vo,vu,gf2,gt2,gl2,of,ot,ol,vs⟩,HIR.out,congrArg _ W1.out,HG.out.now _,by have h1:=HKS.out; have h2:=HST.out; omega,by rw [← HRN.out,HDR.out,hws,run_cons]; rfl,
     RdM.drop ⟨M4.out,HF3.out.few.like,⟨HF3.out.says.f,HF3.out.says.t,HF3.out.says.l⟩,HF3.out.len⟩⟩
   case measure => exact meas HIR.out W1.out
  | cons s0 r =>
   have hlw:=wds_len (cutL p)
   rw [hws] at hlw HCW
   have HLW:=Lib.hid hlw
   have HZ:=Lib.hid (fun q (hq : q ∈ s0 :: r) => (show q.size ≤ 262144 from Nat.le_trans (wds_size (s:=cutL p) (by rw [hws]; exact hq)) HCZ.out))
   have HWS:=Lib.hid hws
   have he0 : ((s0 :: r).length : Int) > 0:=by simp only [List.length_cons]; omega
   have he1 : decide (((s0 :: r).length : Int) > 0) = true:=decide_eq_true he0
   have he2 : ((r.length : Int) + 1 > 0):=by omega
   have he3 : decide ((0 : Int) < (r.length : Int) + 1) = true:=decide_eq_true (by omega)
   have he4 : (0 : Int) < (r.length : Int) + 1:=by omega
   clear hlw hws
   go_wp2_with (first
    | ((with_reducible refine gate_store (t:=3) (p:=38) rfl ?_); refine fS (Aside0.mk M3.out.mem) 3 (.tmp 38) 0 13 (.int .i64 ((i + 1 : Nat) : Int)) (rcells vc vf vt vi gf2 gt2 gl2 vo s2.cases s2.idle vu s2.wrong s2.line ((i + 1 : Nat) : Int)) ?_ rfl rfl rfl rfl; have HF3:=Lib.hid M3.out; clear M3; intro w40 M4))
   have M5:=Aside0.mk (RdM.mk (k:=k) (s:={ s2 with now:=((i + 1 : Nat) : Int) }) (h:=⟨vc,vf,vt,vi,vo,vu,gf2,gt2,gl2,of,ot,ol,vs⟩) (l:=[(g2,#[.slice none 0 0,.slice none 0 0,.slice none 0 0],26),(gs,curs,9),(gw,cur,9)]) M4.out (HF3.out.few.like) ⟨HF3.out.says.f,HF3.out.says.t,HF3.out.says.l⟩ HF3.out.len)
   clear M4
   have HKB:=Lib.hid (show k < 262144 by have h1:=HKS.out; have h2:=HST.out; have h3:=HLW.out; have h4:=cutL_size p; have h5:=sumZ_le ps (i + 1); have h6:=HSUM.out; simp only [List.length_cons] at h3; omega)
   refine (read_calls (n:=(s0 :: r).length) (c:=(s0 :: r).length) M5.out S.out HKB.out ⟨⟨2,cur,rfl,HCW.out⟩,rfl,Nat.le_refl _,by have h3:=HLW.out; have h4:=HCZ.out; omega,HZ.out⟩ (HG.out.now _).fine).mono ?_
   rintro e W50 ⟨rfl,h',M6_⟩
   have M6:=Aside0.mk M6_.drop
   clear M5 M6_
   go_wp2
   go_roundw
   case rel =>
    refine ⟨i + 1,k + 1,_,h',HIR.out,congrArg _ W1.out,(HG.out.now ((i + 1 : Nat) : Int)).read (s0 :: r) HZ.out (by have h1:=HF3.out.few.funcs; have h2:=HKB.out; show s2.funcs.length ≤ _; omega),?_,?_,M6.out⟩
    ·have h1:=HKS.out; have h2:=HST.out; have h3:=HLW.out; have h4:=cutL_size p; simp only [List.length_cons] at h3; omega
    ·rw [← HRN.out,HDR.out,HWS.out,run_cons]
     rfl
   case measure => exact meas HIR.out W1.out
 ·obtain rfl : i = ps.length:=by omega
  have q2 : ¬ ((ps.length : Nat) : Int) < ((ps.length : Nat) : Int):=by omega
  have HE:=Lib.hid (show s2 = res by have h:=HRN.out; rw [List.drop_eq_nil_of_le (by rw [List.length_map]; exact Nat.le_refl _)] at h; exact h)
  have HKB:=Lib.hid (show k ≤ 262144 by have h1:=HKS.out; have h5:=sumZ_le ps ps.length; have h6:=HSUM.out; omega)
  have M1:=Aside0.mk M
  clear M hir
  go_wp2_with fail
  refine (rclosed M1.out S.out HKB.out).mono ?_
  rintro e W51 ⟨rfl,M2_⟩
  have M2:=Aside0.mk M2_
  clear M1 M2_
  have hgc:=HG.out.closed
  obtain ⟨sc,hsc⟩ : ∃ x,x = s2.closed:=⟨_,rfl⟩
  rw [← hsc] at M2 hgc
  have HGC:=Lib.hid hgc
  have HSC:=Lib.hid hsc
  clear hsc hgc
  obtain ⟨vc,vf,vt,vi,vo,vu,gf2,gt2,gl2,of,ot,ol,vs⟩:=h
  have x11 : W51.cell? ⟨gr,11,none⟩ = some (.int .i64 sc.wrong):=rcell M2.out.mem 11 rfl
  by_cases hw : sc.wrong = 0
  ·have b1 : (sc.wrong == 0) = true:=beq_iff_eq.mpr hw
   have HND:=Lib.hid (named_calls M2.out S.out HKB.out (HGC.out.usesIn hw))
   have HFIN:=Lib.hid (show final07 t = sc.namedL sc.uses by rw [HF.out,← HE.out]; unfold St.done; rw [← HSC.out,if_pos hw])
   rw [hw] at x11
   clear hw
   go_wp2_with fail
   refine HND.out.mono ?_
   rintro e W52 ⟨rfl,M3_⟩
   have M3:=Aside0.mk M3_
   clear M2 M3_ x11 b1
   rw [← HFIN.out] at M3
   have x11 : W52.cell? ⟨gr,11,none⟩ = some (.int .i64 (final07 t).wrong):=rcell M3.out.mem 11 rfl
   by_cases hw2 : (final07 t).wrong = 0
   ·have HW2:=Lib.hid hw2
    rw [hw2] at x11
    clear hw2
    have o0:=MemF.one M3.out.mem 0 rfl
    have o1:=MemF.one M3.out.mem 1 rfl
    have o2:=MemF.one M3.out.mem 2 rfl
    have H3:=Lib.hid (show (#[vc,vf,vt] : Array Value).all (·.oneCell') = true by simp [show vc.oneCell' = true from o0,show vf.oneCell' = true from o1,show vt.oneCell' = true from o2])
    clear o0 o1 o2
    have hrg:=fun (j : Nat) (u : Value) (hj : [vc,vf,vt][j]? = some u) => rcell M3.out.mem j (u:=u) (by rcases j with _ | _ | _ | j <;> simp at hj <;> subst hj <;> rfl)
    go_wp2_with (first
     | ((with_reducible refine gate_dst (N:=72) rfl ?_); refine wpList_load_mid rfl 26 (.tmp 71) rfl gr 0 rfl [vc,vf,vt] _ (fun j u hj => by have h:=hrg j u hj; rw [Nat.zero_add]; exact h) Tryz.underlying26 rfl (by kernel_rfl) ?_)
     | ((with_reducible refine gate_store (t:=26) (p:=2) rfl ?_); refine fW (Aside0.mk M3.out.mem) 26 2 1 #[vc,vf,vt] ?_ rfl rfl H3.out; have HF3:=Lib.hid M3.out; clear M3; intro w2 M4))
    refine bodyPost_ret (results_ctt rfl _ _ g2 26 #[vc,vf,vt] (0,0) _ rfl (M4.out.mem.at 1 rfl) Tryz.underlying26 rfl (by kernel_rfl)) rfl ?_
    rw [HP.out,if_neg (fun h => h HW2.out)]
    exact ⟨k,gr,[(g2,#[vc,vf,vt],26),(gs,curs,9)],⟨vc,vf,vt,vi,.slice none 0 0,vu,gf2,gt2,gl2,of,ot,ol,vs⟩,rfl,HKB.out,M4.out,HF3.out.few,HF3.out.says,HF3.out.len⟩
   ·have hfin_:=trivial
    have e17 : ((final07 t).wrong != 0) = true:=bne_iff_ne.mpr hw2
    have HW2:=Lib.hid hw2
    clear hw2
    go_wp2_with fail
    refine kStart [] [(⟨gr,11,none⟩,.int .i64 (final07 t).wrong),(⟨gr,12,none⟩,.int .i64 (final07 t).line)] (Aside0.mk M3.out.mem) ?_ (fun w4 MD HK0 => ?_)
    ·intro q hq
     simp only [List.mem_cons,List.not_mem_nil,or_false] at hq
     rcases hq with rfl | rfl
     ·exact rcell M3.out.mem 11 rfl
     ·exact rcell M3.out.mem 12 rfl
    clear x11 M3
    refine kP 0 60 (.agg #[.slice none 0 0,.slice none 0 0,.slice none 0 0]) ?_
    simp only [Act.put,sAz,sCz,sCs]
    refine kP 1 61 (.pointer (some ⟨gr,0,none⟩)) ?_
    simp only [Act.put,sAz,sCz,sCs]
    refine kP 2 62 (.pointer (some ⟨gr,0,none⟩)) ?_
    simp only [Act.put,sAz,sCz,sCs]
    refine kP 3 63 (.pointer (some ⟨gr,11,none⟩)) ?_
    simp only [Act.put,sAz,sCz,sCs]
    refine kE HK0 4 64 0 ?_
    simp only [Act.put,sAz,sCz,sCs]
    refine kP 5 65 (.pointer (some ⟨gr,0,none⟩)) ?_
    simp only [Act.put,sAz,sCz,sCs]
    refine kP 6 66 (.pointer (some ⟨gr,0,none⟩)) ?_
    simp only [Act.put,sAz,sCz,sCs]
    refine kP 7 67 (.pointer (some ⟨gr,12,none⟩)) ?_
    simp only [Act.put,sAz,sCz,sCs]
    refine kE HK0 8 68 1 ?_
    simp only [Act.put,sAz,sCz,sCs]
    refine kR [9] ?_
    refine kW HK0 MD 9 26 2 1 #[.slice none 0 0,.slice none 0 0,.slice none 0 0] (fun c hc => by have h1:=MD.out.mem.at 0 rfl; have h2:=MD.out.mem.at 1 rfl; have h3:=MD.out.mem.apart; simp only [List.mem_cons,List.not_mem_nil,or_false] at hc; have h4 : gr ≠ g2:=(List.pairwise_cons.1 h3).1 _ List.mem_cons_self; rcases hc with rfl | rfl <;> exact ⟨h4,heap_lt h1⟩) ?_ AllReadyL.nil
    clear MD HK0
    intro w6 MG HK1
    refine kP 10 3 (.int .i64 (final07 t).wrong) ?_
    simp only [Act.put,sAz,sCz,sCs]
    refine kP 11 4 (.int .i64 (final07 t).line) ?_
    simp only [Act.put,sAz,sCz,sCs]
    refine kDone ?_
    go_wp2
    refine bodyPost_ret (results_ctt rfl _ _ g2 26 #[.slice none 0 0,.slice none 0 0,.slice none 0 0] (0,0) _ rfl (MG.out.mem.at 1 rfl) Tryz.underlying26 rfl (by kernel_rfl)) rfl ?_
    rw [HP.out,if_pos HW2.out]
    exact ⟨rfl,MG.out.mem.below⟩
  ·have b1 : (sc.wrong == 0) = false:=beq_eq_false_iff_ne.mpr hw
   have HFIN:=Lib.hid (show final07 t = sc by rw [HF.out,← HE.out]; unfold St.done; rw [← HSC.out,if_neg hw])
   have hw2:=hw
   clear hw
   have e17 : (sc.wrong != 0) = true:=bne_iff_ne.mpr hw2
   have HW2:=Lib.hid hw2
   clear hw2
   go_wp2_with fail
   refine kStart [] [(⟨gr,11,none⟩,.int .i64 sc.wrong),(⟨gr,12,none⟩,.int .i64 sc.line)] (Aside0.mk M2.out.mem) ?_ (fun w4 MD HK0 => ?_)
   ·intro q hq
    simp only [List.mem_cons,List.not_mem_nil,or_false] at hq
    rcases hq with rfl | rfl
    ·exact rcell M2.out.mem 11 rfl
    ·exact rcell M2.out.mem 12 rfl
   clear x11 M2
   refine kP 0 60 (.agg #[.slice none 0 0,.slice none 0 0,.slice none 0 0]) ?_
   simp only [Act.put,sAz,sCz,sCs]
   refine kP 1 61 (.pointer (some ⟨gr,0,none⟩)) ?_
   simp only [Act.put,sAz,sCz,sCs]
   refine kP 2 62 (.pointer (some ⟨gr,0,none⟩)) ?_
   simp only [Act.put,sAz,sCz,sCs]
   refine kP 3 63 (.pointer (some ⟨gr,11,none⟩)) ?_
   simp only [Act.put,sAz,sCz,sCs]
   refine kE HK0 4 64 0 ?_
   simp only [Act.put,sAz,sCz,sCs]
   refine kP 5 65 (.pointer (some ⟨gr,0,none⟩)) ?_
   simp only [Act.put,sAz,sCz,sCs]
   refine kP 6 66 (.pointer (some ⟨gr,0,none⟩)) ?_
   simp only [Act.put,sAz,sCz,sCs]
   refine kP 7 67 (.pointer (some ⟨gr,12,none⟩)) ?_
   simp only [Act.put,sAz,sCz,sCs]
   refine kE HK0 8 68 1 ?_
   simp only [Act.put,sAz,sCz,sCs]
   refine kR [9] ?_
   refine kW HK0 MD 9 26 2 1 #[.slice none 0 0,.slice none 0 0,.slice none 0 0] (fun c hc => by have h1:=MD.out.mem.at 0 rfl; have h2:=MD.out.mem.at 1 rfl; have h3:=MD.out.mem.apart; simp only [List.mem_cons,List.not_mem_nil,or_false] at hc; have h4 : gr ≠ g2:=(List.pairwise_cons.1 h3).1 _ List.mem_cons_self; rcases hc with rfl | rfl <;> exact ⟨h4,heap_lt h1⟩) ?_ AllReadyL.nil
   clear MD HK0
   intro w6 MG HK1
   refine kP 10 3 (.int .i64 sc.wrong) ?_
   simp only [Act.put,sAz,sCz,sCs]
   refine kP 11 4 (.int .i64 sc.line) ?_
   simp only [Act.put,sAz,sCz,sCs]
   refine kDone ?_
   go_wp2
   refine bodyPost_ret (results_ctt rfl _ _ g2 26 #[.slice none 0 0,.slice none 0 0,.slice none 0 0] (0,0) _ rfl (MG.out.mem.at 1 rfl) Tryz.underlying26 rfl (by kernel_rfl)) rfl ?_
   rw [HP.out,HFIN.out,if_pos HW2.out]
   exact ⟨rfl,MG.out.mem.below⟩
theorem parse_calls (t : ByteArray) (htz : t.size ≤ 9223372036854775807) (w : World) (S : Std w) : Calls Tryz.prog 9 #[.string t] w (Parsed t w):=by
 by_cases ht : 262144 < t.size
 ·exact parse_long t ht htz w
 ·exact parse_short t ht w S
end Go.Proofs.YtdbpglhdicmhhaaGreatDoor.Hof
end

section
namespace Go.Proofs.YtdbpglhdicmhhaaGreatDoor.GA
open Go.RowKit Go.Proofs.YtdbpglhdicmhhaaGreatDoorW.PrintWords Go.Proofs.YtdbpglhdicmhhaaGreatDoorW.PrintLast Go.Proofs.YtdbpglhdicmhhaaGreatDoorW.PrintMore
end Go.Proofs.YtdbpglhdicmhhaaGreatDoor.GA
end

section
namespace Go.Proofs.YtdbpglhdicmhhaaGreatDoor.GA
open Go.RowKit Go.Proofs.YtdbpglhdicmhhaaGreatDoorW.PrintWords Go.Proofs.YtdbpglhdicmhhaaGreatDoorW.PrintLast Go.Proofs.YtdbpglhdicmhhaaGreatDoorW.PrintMore
end Go.Proofs.YtdbpglhdicmhhaaGreatDoor.GA
end
