import Derived.Test.YtdbpglhdicmhhaaGreatDoorMPr34
import Derived.Test.YtdbpglhdicmhhaaGreatDoorMPr41
import Derived.Test.YtdbpglhdicmhhaaGreatDoorMPr3
import Derived.Test.YtdbpglhdicmhhaaGreatDoorMPr2
import Derived.Test.YtdbpglhdicmhhaaGreatDoorRows
import Derived.OpenShut
import Derived.Laws.Rows
import Derived.FnData
import Derived.HandedShaped
import Derived.Stop.LaidErr
import Derived.Lib.LaidTab
import Derived.ChangeSlices
import Derived.Shelf.Vars
import Derived.Test.YtdbpglhdicmhhaaGreatDoorCards
import Derived.Test.YtdbpglhdicmhhaaGreatDoorTie
import Derived.Test.YtdbpglhdicmhhaaGreatDoorMPr4
import Derived.WalkKit
import Derived.ProofKit
import Derived.ShutString
import Derived.ChangeOld
import Derived.Below
import Derived.SizedLaws
import Derived.Lib.SmallJoins
import Derived.Deep.DeepHandedRow
import Derived.Deep.DeepWitnessRowRef
import Derived.Deep.DeepLaidRun
set_option maxHeartbeats 8000000
set_option maxRecDepth 100000
set_option linter.unusedVariables false
set_option linter.unusedSimpArgs false
section
namespace Go.Proofs.YtdbpglhdicmhhaaGreatDoor.qp
open Go.RowKit Go.Shelf Go.Proofs.YtdbpglhdicmhhaaGreatDoorW.aI Go.Proofs.YtdbpglhdicmhhaaGreatDoorW.aX Go.Proofs.YtdbpglhdicmhhaaGreatDoorW.aZ iM
open Go.Proofs.YtdbpglhdicmhhaaGreatDoor.GA
theorem Nz (A0 : Option Addr) (c0 : Nat) (l0 : List Int) (A1 : Option Addr) (c1 : Nat) (l1 : List jw) (A2 : Option Addr) (c2 : Nat) (l2 : List qB) (w : World) (hS : Laid.Af w) (hP : PC w A0 c0 l0 A1 c1 l1 A2 c2 l2) (hD : Dom l0 l1 l2) :
  Calls Tryz.prog 5 #[.agg #[.slice A0 l0.length c0,.slice A1 l1.length c1,.slice A2 l2.length c2]] w fun e w' => e = .returned (.bool true) ∧ Below w.heap.size w w':=by
 have HS:=Lib.hid hS
 have HP:=Lib.hid hP
 have HD:=Lib.hid hD
 have M0:=ah.mk (bf.start vk w)
 obtain ⟨kk,b,hb,hbs⟩:=Q.Xw (l0:=l0) (l1:=l1) (l2:=l2) (by have:=hD.fits.h0; omega) (by have:=hD.fits.h2; omega) (fun t ht => by have:=hD.fits.h3 t ht; omega)
 have HLB:=Lib.hid hb
 have Qj:=Lib.hid hbs
 clear hS hP hD hb hbs
 go_enter Tryz.func5,Tryz.ntmps5
 go_wp2_with (first
  | ((with_reducible refine bI (N:=1) rfl ?_); refine fB M0 1 #[.slice A0 l0.length c0,.slice A1 l1.length c1,.slice A2 l2.length c2] 26 ?_; clear M0; intro g1 w1 M1; have p0:=M1.out.mem.cell 0 rfl 0; have p1:=M1.out.mem.cell 0 rfl 1; have p2:=M1.out.mem.cell 0 rfl 2)
  | fail)
 have HP1:=Lib.hid (HP.out.below M1.out.mem.below)
 refine (GA.dZ.calls kk _ _ _ _ _ _ _ _ _ _ w1 HP1.out.g0 HP1.out.h0 HP1.out.g1 HP1.out.h1 HP1.out.g2 HP1.out.h2 HLB.out).mono ?_
 rintro e w2 ⟨rfl,hb2⟩
 have M2:=ah.mk (M1.out.call hb2)
 clear M1 hb2 HP1 p0 p1 p2
 go_upto_if 8 with (fail)
 go_cut [] (fun wc => ∃ (A0 : Option Addr) (c0 : Nat) (m0 : List Int) (A1 : Option Addr) (c1 : Nat) (m1 : List jw) (A2 : Option Addr) (c2 : Nat) (m2 : List qB),bf vk w wc [(g1,#[.slice A0 m0.length c0,.slice A1 m1.length c1,.slice A2 m2.length c2],26)] [] [] ∧ PC w A0 c0 m0 A1 c1 m1 A2 c2 m2 ∧ Dom m0 m1 m2 ∧ m0.length + m2.length + Q.sN m2 ≤ 262144)
 case first =>
  cases b with
  | true =>
   go_wp2_with (first
    | ((with_reducible refine aU (t:=26) (p:=1) rfl ?_); refine fW M2 26 1 0 #[.slice none 0 0,.slice none 0 0,.slice none 0 0] ?_ rfl rfl (by kernel_rfl); clear M2; intro w3 M3)
    | fail)
   go_meet
   case rel => exact ⟨none,0,[],none,0,[],none,0,[],M3.out,ade w,YS,Nat.zero_le _⟩
  | false =>
   go_wp2
   go_meet
   case rel => exact ⟨A0,c0,l0,A1,c1,l1,A2,c2,l2,M2.out,HP.out,HD.out,Qj.out rfl⟩
 case rest =>
  clear M2 HP HD HLB Qj
  rename World => w3
  obtain ⟨E0,k0,m0,E1,k1,m1,E2,k2,m2,M3,hP,hD,hn⟩:=hcut
  have HP:=Lib.hid hP
  have HD:=Lib.hid hD
  have HN:=Lib.hid hn
  have M4:=ah.mk M3
  have p0:=M4.out.mem.cell 0 rfl 0
  have p1:=M4.out.mem.cell 0 rfl 1
  have p2:=M4.out.mem.cell 0 rfl 2
  clear M3 hP hD hn
  go_wp2_with fail
  refine (RJ _ _ _ _ _ _ _ _ _ w3 (HP.out.below M4.out.mem.below) HD.out.fits).mono ?_
  rintro e w5 ⟨vc,vf,vt,vs,rfl,hvs,M5⟩
  obtain ⟨B0,d0,B1,d1,B2,d2,rfl,rfl,rfl,hQ⟩:=afu M5 hvs
  have HQ:=Lib.hid hQ
  have M6:=ah.mk (M4.out.call M5.mem.below)
  clear M4 M5 hQ p0 p1 p2 hvs
  go_wp2_with fail
  have HTL:=Lib.hid (Q.aaf (l1:=m1) HD.out.words HD.out.cases (by have:=HN.out; omega))
  have HSM:=Lib.hid (HD.out.small HN.out)
  refine (PS _ _ _ _ _ _ _ _ _ w5 (HS.out.below M6.out.mem.below) HQ.out HD.out.words (by have:=HSM.out; omega) (by have:=HD.out.fits.h1; omega) (by have:=HSM.out; omega) (fun t ht => by have:=HSM.out.2 t ht; omega) HTL.out.1 HTL.out.2).mono ?_
  rintro e w7 ⟨rfl,hb7⟩
  have M7:=ah.mk (M6.out.call hb7)
  clear M6 hb7 HQ
  have p0:=M7.out.mem.cell 0 rfl 0
  have p1:=M7.out.mem.cell 0 rfl 1
  have p2:=M7.out.mem.cell 0 rfl 2
  go_wp2_with fail
  refine (Js _ _ _ _ _ _ _ _ _ w7 (HP.out.below M7.out.mem.below) HD.out.words (by have:=HSM.out; omega) (by have:=HD.out.fits.h1; omega) (by have:=HSM.out; omega) (fun t ht => by have:=HSM.out.2 t ht; omega) HTL.out.1 HTL.out.2).mono ?_
  rintro e w8 ⟨rfl,hb8⟩
  have M8:=ah.mk (M7.out.call hb8)
  clear M7 hb8 p0 p1 p2
  generalize Q.wF m0 m1 m2 = se
  obtain ⟨s,er⟩:=se
  generalize hz : Q.bs s = z
  clear hz
  go_wp2_with fail
  refine (Pq w8 (HS.out.below M8.out.mem.below).1).mono ?_
  rintro e w9 ⟨rfl,hb9⟩
  have M9:=ah.mk (M8.out.call hb9)
  clear M8 hb9
  go_wp2
  go_ret
  exact ⟨by simp,M9.out.mem.below⟩
end Go.Proofs.YtdbpglhdicmhhaaGreatDoor.qp
end

section
namespace Go.Proofs.YtdbpglhdicmhhaaGreatDoor.Laid
open Go.RowKit Go.Proofs.YtdbpglhdicmhhaaGreatDoorW.aI
theorem Bo {P : Program} {w : World} {name : String} {d : DataW Unit} : ∀ {laid : List (String × DataW Unit)} {ps : List MemPlace},DataW.LaidVars P w laid ps → (name,d) ∈ laid →
  ∃ g t cs fuel p,P.globalNamed name = some g ∧ (P.globals[g]?).map (·.type) = some t ∧ w.var? P name = some cs ∧ DataW.trod (fun _ => ()) P w 0 (fun _ => true) false fuel t cs.toList = some (d,p)
 | [],_,_,hm => by simp at hm
 | (n',d') :: r,ps,h,hm => by
  obtain ⟨g,t,cs,fuel,p,q,h1,h2,h3,h4,h5,_⟩:=h
  rcases List.mem_cons.1 hm with e | hm
  ·obtain ⟨rfl,rfl⟩:=Prod.mk.inj e
   exact ⟨g,t,cs,fuel,p,h1,h2,h3,h4⟩
  ·exact Bo h5 hm
def eight : List (String × DataW Unit) := [("math/bits.deBruijn32tab", Rows.laid_math_bits_deBruijn32tab), ("math/bits.deBruijn64tab", Rows.laid_math_bits_deBruijn64tab), ("internal/strconv.uint64pow10", Rows.laid_internal_strconv_uint64pow10), ("unicode/utf8.acceptRanges", Rows.laid_unicode_utf8_acceptRanges), ("strconv.ErrRange", Rows.laid_strconv_ErrRange), ("strconv.ErrSyntax", Rows.laid_strconv_ErrSyntax), ("rota/listing.order", Rows.laid_rota_listing_order), ("unicode/utf8.first", Rows.laid_unicode_utf8_first)]
theorem star : "*" ++ "errors.errorString" = "*errors.errorString" := by decide
theorem adq (u : TypeId) (h : Tryz.prog.typeName? 3 u = some "*errors.errorString") : u = 191 :=
 typeName_ptr_named (nm := "errors.errorString") (by rw [star]; kernel_rfl) (by kernel_rfl) (by decide) u (by rw [star]; exact h)
theorem V4 {W : World} {n : String} {text : List UInt8} {r : List (String × DataW Unit)} {g : Nat} (h : laidMet Tryz.prog ((n, .iface "*errors.errorString" (.ptr (.agg [.lit (.string text)]))) :: r) W) (hg : Tryz.prog.globalNamed n = some g) (ht : (Tryz.prog.globals[g]?).map (·.type) = some 91) :
  ∃ te pe,W.cell? ⟨g,0,none⟩ = some (.iface te pe):=by
 have hi : Tryz.prog.underlying 91 = some (.interface #[("Error", 99)]) := by kernel_rfl
 obtain ⟨a, s, hv, _, _, _⟩ := laid_sentinel h hg ht (ti := 91) (tp := 191) (te := 193) (ts := 9) hi adq (by kernel_rfl) (show Tryz.prog.underlying 193 = some (.struct #[{ name := "s", type := 9, offset := 0, embedded := false, tag := "", pkgPath := "errors", byteOffset := 0 }]) by kernel_rfl) rfl rfl Tryz.underlying9 (by kernel_rfl) (by kernel_rfl)
 exact ⟨_,_,(World.var?_cell hg hv 0).trans rfl⟩
theorem ac6 {W : World} (h : laidMet Tryz.prog eight W) : ∃ A c,W.cell? ⟨0,0,none⟩ = some (.slice A 5 c) ∧ 5 ≤ c ∧ Kd.C (Kd.int .i64) W A 5 qp.Ny:=by
 obtain ⟨ps,hps,_⟩:=h
 obtain ⟨g, t, cs, fuel, p, hg, ht, hvar, hd⟩ := Bo hps (show ("rota/listing.order", Rows.laid_rota_listing_order) ∈ eight by simp [eight])
 obtain rfl := Option.some.inj (hg.symm.trans (show Tryz.prog.globalNamed "rota/listing.order" = some 0 by kernel_rfl))
 obtain rfl:=Option.some.inj (ht.symm.trans (show (Tryz.prog.globals[0]?).map (·.type) = some 141 by kernel_rfl))
 rcases Go.ChangeShapes.open_ints (show Tryz.prog.underlying 141 = some (.slice 27) by kernel_rfl) (show Tryz.prog.underlying 27 = some (.int .i64) by kernel_rfl) (by kernel_rfl) hd with ⟨_,h2⟩ | ⟨a,len,cap,zs,hcs,_,hlc,hcm,hz,hx,hcell,_⟩
 ·injection h2 with h2 _
  unfold Rows.laid_rota_listing_order at h2
  cases h2
 ·have hx1:=congrArg Prod.fst hx
  unfold Rows.laid_rota_listing_order at hx1
  injection hx1 with e1 e2
  have hlen : (zs.take len) = qp.Ny:=by
   have e3 : (Go.ChangeShapes.lits .i64 (zs.take len) : List (DataW Unit)) = Go.ChangeShapes.lits .i64 qp.Ny:=e1.symm
   have inj : ∀ (x y : List Int),(Go.ChangeShapes.lits .i64 x : List (DataW Unit)) = Go.ChangeShapes.lits .i64 y → x = y:=by
    intro x
    induction x with
    | nil => intro y h; cases y with
     | nil => rfl
     | cons b y => cases h
    | cons a x ih => intro y h; cases y with
     | nil => cases h
     | cons b y =>
      have h0 : (DataW.lit (.int .i64 a) : DataW Unit) = .lit (.int .i64 b) ∧ (Go.ChangeShapes.lits .i64 x : List (DataW Unit)) = Go.ChangeShapes.lits .i64 y:=List.cons.inj h
      have h1:=h0.1
      injection h1 with h1
      injection h1 with _ h1
      rw [h1,ih y h0.2]
   exact inj _ _ e3
  have hl5 : len = 5:=by
   have h5:=congrArg List.length hlen
   rw [List.length_take] at h5
   have : qp.Ny.length = 5:=rfl
   have hle : len ≤ zs.length:=by rw [hz]; split <;> omega
   omega
  subst hl5
  obtain rfl : cs = #[.slice (some a) 5 cap]:=Array.toList_inj.1 hcs
  refine ⟨some a,cap,(World.var?_cell hg hvar 0).trans rfl,hlc,rfl,by decide,fun _ => ⟨a,rfl,fun j q hj => ?_⟩⟩
  have hj5 : j < 5:=(List.getElem?_eq_some_iff.1 hj).1
  have hle : 5 ≤ zs.length:=by rw [hz]; split <;> omega
  have hq : zs.getD j 0 = q:=by
   have h6 : (zs.take 5)[j]? = some q:=by rw [hlen]; exact hj
   rw [List.getElem?_take,if_pos hj5] at h6
   rw [List.getD_eq_getElem?_getD,h6]; rfl
  refine ⟨[.int .i64 q],rfl,rfl,fun i u hu => ?_⟩
  have hi0 : i = 0:=by
   rcases i with _ | i
   ·rfl
   ·simp at hu
  subst hi0
  have hu' : u = .int .i64 q:=by simpa using hu.symm
  rw [hu',← hq,show j * (Kd.int .i64).sz + 0 = j by show j * 1 + 0 = j; omega]
  exact hcell j (by omega)
theorem adt {W : World} (h : laidMet Tryz.prog eight W) (hS : W.ShapedOpen Tryz.prog) : qp.Std W:=by
 have hr:=laidMet.tail (laidMet.tail (laidMet.tail (laidMet.tail h)))
 have hs:=laidMet.tail hr
 obtain ⟨m,hm⟩:=cell_of_shapedOpen_int (P:=Tryz.prog) (g:=1) (t:=3) (zero:=#[.int .i64 0]) hS (of_decide_eq_true (by kernel_rfl)) (by kernel_rfl) rfl (by kernel_rfl) (by kernel_rfl) Tryz.underlying3
 have h5:=V4 (g:=5) hs (by kernel_rfl) (by kernel_rfl)
 have h6:=V4 (g:=6) hr (by kernel_rfl) (by kernel_rfl)
 have hsize : 6 < W.heap.size:=by
  obtain ⟨te,pe,hc⟩:=h6
  exact World.block_lt_of_cell? W ⟨6,0,none⟩ hc
 exact ⟨hsize,⟨m,hm⟩,h5,h6,ac6 h⟩
theorem adw {w : World} (h : laidMet Tryz.prog eight w) : qp.TB w:=by
 obtain ⟨ps,hps,_⟩:=h
 obtain ⟨g, t, cs, fuel, p, hg, ht, hvar, hd⟩ := Bo hps (show ("internal/strconv.uint64pow10", Rows.laid_internal_strconv_uint64pow10) ∈ eight by simp [eight])
 have e : (Rows.laid_internal_strconv_uint64pow10 : DataW Unit) = Lib.tabData .u64 Lib.pow10Tab:=by kernel_rfl
 rw [e] at hd
 obtain rfl := Option.some.inj (hg.symm.trans (show Tryz.prog.globalNamed "internal/strconv.uint64pow10" = some 2 by kernel_rfl))
 obtain rfl:=Option.some.inj (ht.symm.trans (show (Tryz.prog.globals[2]?).map (·.type) = some 168 by kernel_rfl))
 have hc:=Lib.cells_of_tab (show Tryz.prog.underlying 168 = some (.array 20 158) by kernel_rfl) (show Tryz.prog.underlying 158 = some (.int .u64) by kernel_rfl) (by kernel_rfl) (by kernel_rfl) hd
 refine Lib.tabBelow_of_tabIs ?_
 unfold Lib.TabIs
 rw [hvar,← hc]
theorem ac1 {W : World} (h : laidMet Tryz.prog eight W) (hS : W.ShapedOpen Tryz.prog) : Af W:=⟨adt h hS,adw h⟩
end Go.Proofs.YtdbpglhdicmhhaaGreatDoor.Laid
namespace Go.Proofs.YtdbpglhdicmhhaaGreatDoor.Q
open Go.RowKit Go.Proofs.YtdbpglhdicmhhaaGreatDoorW.aI Go.Proofs.YtdbpglhdicmhhaaGreatDoor.Opn
theorem wf_u32 {n : Int} (h : (Lit.int IntKind.u32 n).wf = true) : 0 ≤ n ∧ n < 4294967296:=by
 unfold Lit.wf at h
 rw [Bool.and_eq_true] at h
 have a:=of_decide_eq_true h.1
 have b:=of_decide_eq_true h.2
 rw [show IntKind.u32.min = 0 by decide] at a
 rw [show IntKind.u32.max = 4294967295 by decide] at b
 omega
theorem wf_i64 {n : Int} (h : (Lit.int IntKind.i64 n).wf = true) : -9223372036854775808 ≤ n ∧ n ≤ 9223372036854775807:=by
 unfold Lit.wf at h
 rw [Bool.and_eq_true] at h
 have a:=of_decide_eq_true h.1
 have b:=of_decide_eq_true h.2
 rw [show IntKind.i64.min = -9223372036854775808 by decide] at a
 rw [show IntKind.i64.max = 9223372036854775807 by decide] at b
 omega
end Go.Proofs.YtdbpglhdicmhhaaGreatDoor.Q
end

section
namespace Go.Proofs.YtdbpglhdicmhhaaGreatDoor.listingPrints
open Go.ChangeShapes Go.WideShapes Go.ChangeAt Go.RowKit Go.Proofs.YtdbpglhdicmhhaaGreatDoorW.aI Go.Proofs.YtdbpglhdicmhhaaGreatDoor.Opn
open Go.ChangeMaps (open_string shut_string)
theorem own : ownKnob Tryz.prog.godebug = none:=by kernel_rfl
theorem laidOut : laidOutB Tryz.prog = true:=by kernel_rfl
theorem contract (H : Type) (enc : TypeId × Value → H) (W : World) (base : Nat) (args : Array Value) (ds gs : List (DataW H)) (before : List MemPlace)
  (hval0 : ∀ (j : Nat) t v,Tryz.f5.params[j]? = some t → args[j]? = some v → Value.okWide Tryz.prog W .any base t v)
  (hW : DataW.Whole enc Tryz.prog Tryz.f5.params.toList Rows.listingPrintsSpec.vars false W args.toList ds gs before)
  (hsz0 : (DataW.weightsEach Tryz.prog (Tryz.f5.params.toList ++ (OpenSpec.ofChange Rows.listingPrintsSpec).bare.plain.varTypes Tryz.prog) (ds ++ gs)).all (· ≤ reachBytes) = true)
  (hSh : W.ShapedOpen Tryz.prog)
  (hL : laidMetH Tryz.prog Rows.listingPrintsRow.laid W) :
  Calls Tryz.prog 5 args W fun e W' => ∃ v,e = .returned v ∧ Rows.listingPrintsSpec.post enc Tryz.prog Tryz.f5 false true false false W args v W':=by
 have hsz : (DataW.weightsEach Tryz.prog (Tryz.f5.params.toList ++ Rows.listingPrintsSpec.plain.varTypes Tryz.prog) (ds ++ gs)).all (· ≤ reachBytes) = true:=hsz0
 have hval : ∀ (j : Nat) t v,Tryz.f5.params[j]? = some t → args[j]? = some v → Value.okWide Tryz.prog W .any base t v:=hval0
 have aiS : Laid.Af W:=Laid.ac1 (show laidMet Tryz.prog Laid.eight W from hL) hSh
 have hW':=hW
 obtain ⟨p,q,hA0,hV,rfl,hfz,hnd⟩:=hW
 have hA : DataW.TrodAll enc Tryz.prog W 0 (fun _ => true) true Tryz.f5.params.toList args.toList ds p:=hA0
 rw [Tryz.params5] at hA hval hsz
 obtain ⟨v0,vs0,d0,ds0,p0,q0,hargs,rfl,rfl,h0,r0⟩:=trodAll_cons hA
 obtain ⟨rfl,rfl,rfl⟩:=trodAll_nil r0
 obtain rfl : args = #[v0]:=by cases args; simp_all
 obtain ⟨rfl,rfl⟩:=trodVars_none hV
 have k0:=h0
 have lt0 : ∀ x ∈ p0,x.block < W.heap.size:=by obtain ⟨m,hm⟩:=k0; exact DataW.trod_lt m _ _ _ hm
 have ws0 : ∀ n ∈ d0.weights Tryz.prog 26,n ≤ reachBytes:=fun n hn => by simpa using List.all_eq_true.1 hsz n (DataW.weights_mem_each (j:=0) rfl rfl n hn)
 obtain ⟨x0,K0,G0⟩ : ∃ x,(Kinds.k26).K W x v0.cells.toList ∧ Kinds.G26 x (Rows.uptoBulk d0):=by
  obtain ⟨fuel,hf⟩:=h0
  exact Kinds.o26.opens enc W 0 _ _ fuel _ _ hf ws0
 obtain ⟨cs0,rfl,_⟩:=Go.WideShapes.okWide_struct Tryz.underlying26 (hval 0 26 v0 rfl rfl)
 obtain ⟨Aa0,ca0,Ab0,cb0,Ac0,cc0,hcs0,la0,ga0,lb0,gb0,lc0,gc0⟩:=Kinds.Xi K0
 obtain rfl : cs0 = #[.slice Aa0 x0.code.length ca0,.slice Ab0 x0.funcs.length cb0,.slice Ac0 x0.tabs.length cc0]:=Array.toList_inj.1 hcs0
 clear hA0 hval hsz
 refine (qp.Nz _ _ x0.code _ _ x0.funcs _ _ x0.tabs W aiS ⟨ga0,la0,gb0,lb0,gc0,lc0⟩ (Kinds.dom G0)).mono fun e W' ⟨he,bel⟩ => ?_
 subst he
 exact ⟨_,rfl,_,_,_,[],_,[],hW',trodAll_mk1 (shut_bool Tryz.underlying4 _),(trodAll_cons_mk (Below.trod laidOut (by kernel_rfl) (of_decide_eq_true (by kernel_rfl)) k0 bel lt0) trodAll_mk0),rfl,bel.frame _,fun h => by cases h⟩
def lay (cs : Array Value) : Obj → Obj
 | .cells _ t frozen => .cells cs t frozen
 | o => o
noncomputable def laidWorld (os : Os) : World:={ World.holding Tryz.prog os ⟨#[],#[],[]⟩ with heap:=((((((((((((World.holding Tryz.prog os ⟨#[],#[],[]⟩).heap.modify 0 (lay #[.slice (some ⟨(World.holding Tryz.prog os ⟨#[],#[],[]⟩).heap.size + 2,0,none⟩) 5 5])).modify 2 (lay #[.int .u64 1,.int .u64 10,.int .u64 100,.int .u64 1000,.int .u64 10000,.int .u64 100000,.int .u64 1000000,.int .u64 10000000,.int .u64 100000000,.int .u64 1000000000,.int .u64 10000000000,.int .u64 100000000000,.int .u64 1000000000000,.int .u64 10000000000000,.int .u64 100000000000000,.int .u64 1000000000000000,.int .u64 10000000000000000,.int .u64 100000000000000000,.int .u64 1000000000000000000,.int .u64 10000000000000000000])).modify 5 (lay #[.iface 191 (.pointer (some ⟨(World.holding Tryz.prog os ⟨#[],#[],[]⟩).heap.size,0,none⟩))])).modify 6 (lay #[.iface 191 (.pointer (some ⟨(World.holding Tryz.prog os ⟨#[],#[],[]⟩).heap.size + 1,0,none⟩))])).modify 3 (lay (Go.Pinned.utf8FirstZ.map fun (n : Nat) => Value.int .u8 (n : Int)).toArray)).modify 4 (lay #[.int .u8 128,.int .u8 191,.int .u8 160,.int .u8 191,.int .u8 128,.int .u8 159,.int .u8 144,.int .u8 191,.int .u8 128,.int .u8 143,.int .u8 0,.int .u8 0,.int .u8 0,.int .u8 0,.int .u8 0,.int .u8 0,.int .u8 0,.int .u8 0,.int .u8 0,.int .u8 0,.int .u8 0,.int .u8 0,.int .u8 0,.int .u8 0,.int .u8 0,.int .u8 0,.int .u8 0,.int .u8 0,.int .u8 0,.int .u8 0,.int .u8 0,.int .u8 0])).modify 7 (lay #[.int .u8 0,.int .u8 1,.int .u8 28,.int .u8 2,.int .u8 29,.int .u8 14,.int .u8 24,.int .u8 3,.int .u8 30,.int .u8 22,.int .u8 20,.int .u8 15,.int .u8 25,.int .u8 17,.int .u8 4,.int .u8 8,.int .u8 31,.int .u8 27,.int .u8 13,.int .u8 23,.int .u8 21,.int .u8 19,.int .u8 16,.int .u8 7,.int .u8 26,.int .u8 12,.int .u8 18,.int .u8 6,.int .u8 11,.int .u8 5,.int .u8 10,.int .u8 9])).modify 8 (lay #[.int .u8 0,.int .u8 1,.int .u8 56,.int .u8 2,.int .u8 57,.int .u8 49,.int .u8 28,.int .u8 3,.int .u8 61,.int .u8 58,.int .u8 42,.int .u8 50,.int .u8 38,.int .u8 29,.int .u8 17,.int .u8 4,.int .u8 62,.int .u8 47,.int .u8 59,.int .u8 36,.int .u8 45,.int .u8 43,.int .u8 51,.int .u8 22,.int .u8 53,.int .u8 39,.int .u8 33,.int .u8 30,.int .u8 24,.int .u8 18,.int .u8 12,.int .u8 5,.int .u8 63,.int .u8 55,.int .u8 48,.int .u8 27,.int .u8 60,.int .u8 41,.int .u8 37,.int .u8 16,.int .u8 46,.int .u8 35,.int .u8 44,.int .u8 21,.int .u8 52,.int .u8 32,.int .u8 23,.int .u8 11,.int .u8 54,.int .u8 26,.int .u8 40,.int .u8 15,.int .u8 34,.int .u8 20,.int .u8 31,.int .u8 10,.int .u8 25,.int .u8 14,.int .u8 19,.int .u8 9,.int .u8 13,.int .u8 8,.int .u8 7,.int .u8 6])).push (.cells #[.string ⟨#[105,110,118,97,108,105,100,32,115,121,110,116,97,120]⟩] 193)).push (.cells #[.string ⟨#[118,97,108,117,101,32,111,117,116,32,111,102,32,114,97,110,103,101]⟩] 193)).push (.cells #[.int .i64 70,.int .i64 73,.int .i64 74,.int .i64 72,.int .i64 71] 27)) }
theorem laid_met (os : Os) : laidMet Tryz.prog Rows.listingPrintsRow.laid ((laidWorld os).forCall (fun _ _ => 0) ⟨#[],#[.agg #[.slice none 0 0,.slice none 0 0,.slice none 0 0]],[]⟩).memory:=laidMet_of_run3 8 (by kernel_rfl) (by kernel_rfl) (by kernel_rfl)
theorem reads (os : Os) {H : Type} (enc : TypeId × Value → H) : ∃ places,DataW.whole enc Tryz.prog ((laidWorld os).forCall (fun _ _ => 0) ⟨#[],#[.agg #[.slice none 0 0,.slice none 0 0,.slice none 0 0]],[]⟩).memory Tryz.f5.params.toList Rows.listingPrintsSpec.vars false (#[.agg #[.slice none 0 0,.slice none 0 0,.slice none 0 0]] : Array Value).toList 8 = some ([.agg [.nil,.nil,.nil]],[],places):=⟨[],by kernel_rfl⟩
theorem lifted (os : Os) (started : os.Started) (H : Type) (enc : TypeId × Value → H) (F : Stop.Interp) :
  ReturnsInHanded {} Tryz.checked os 5 .any ((OpenSpec.ofChange Rows.listingPrintsSpec).preRow enc Tryz.prog Tryz.f5 Rows.listingPrintsRow.domain false Rows.listingPrintsRow.laid) (((OpenSpec.ofChange Rows.listingPrintsSpec).at F).post enc Tryz.prog Tryz.f5 false true false false):=by
 obtain ⟨places,hx⟩:=reads os enc
 refine returnsInHanded_of_row (C:=Tryz.checked) (s:=(OpenSpec.ofChange Rows.listingPrintsSpec)) own started (by kernel_rfl) Tryz.func5
  (witness_row_atRef (enc:=enc) (C:=Tryz.checked) false (laidWorld os) #[.agg #[.slice none 0 0,.slice none 0 0,.slice none 0 0]] rfl (by kernel_rfl) (by kernel_rfl) (by kernel_rfl)
   (OpenSpec.preRow_of_cond 8 hx (by kernel_rfl) (fun k hk => by cases hk) (by kernel_rfl) (laid_met os))) ?_
 intro W base args ds gs before hval hW _ _ hsz hL hSh _
 exact contract H enc W base args ds gs before hval hW hsz hSh hL
theorem said : Rows.ListingPrintsSaid :=
 OpenClaim.holds_of_cond 5 Tryz.f5 rfl rfl rfl rfl rfl rfl rfl ⟨rfl,rfl,rfl,rfl,rfl⟩ rfl rfl rfl rfl rfl (by kernel_rfl) Tryz.func5 (by kernel_rfl)
  (of_decide_eq_true (by kernel_rfl)) (by unfold Func.isWrapper; first | (rw [if_pos (by decide +kernel)]; kernel_rfl) | (rw [if_neg (by decide +kernel)]; exact ⟨rfl,rfl⟩))
  (fun os started H enc _ F => by rw [OpenClaim.pre_eq_preRow]; exact lifted os started H enc F)
theorem plain (f : FuncId) (fn : Func) (hf : Tryz.pinned.checked.prog.funcNamed Rows.listingPrintsRow.func = some f) (hfn : Tryz.pinned.checked.prog.funcs[f]? = some fn) :
  true = Tryz.pinned.checked.prog.looks [] ∧ ∀ (j : Nat) t,fn.params[j]? = some t → Tryz.pinned.checked.prog.wantsStandIn t = false:=by
 obtain rfl : f = 5:=Option.some.inj ((show Tryz.prog.funcNamed Rows.listingPrintsRow.func = some 5 by kernel_rfl).symm.trans hf) |>.symm
 obtain rfl : fn = Tryz.f5:=(Option.some.inj (Tryz.func5.symm.trans hfn)).symm
 refine ⟨by kernel_rfl,fun j t ht => ?_⟩
 rw [Tryz.params5] at ht
 have hm:=Array.mem_of_getElem? ht
 simp at hm
 rcases hm with rfl
 ·exact (show Tryz.prog.wantsStandIn 26 = false by kernel_rfl)
theorem card : Rows.ListingPrintsCardSaid :=
 Claim7.holds_tied_plain_at .later [] _ _ _ _ said (fun _ h => by cases h) (by kernel_rfl) (fun _ h => by cases h) listingPrints_row_tie rfl ⟨rfl,rfl⟩ (by kernel_rfl) rfl plain (by kernel_rfl)
end Go.Proofs.YtdbpglhdicmhhaaGreatDoor.listingPrints
namespace Go.Proofs.YtdbpglhdicmhhaaGreatDoor
theorem listingPrints_holds : Rows.ListingPrintsCardSaid:=listingPrints.card
end Go.Proofs.YtdbpglhdicmhhaaGreatDoor
end
