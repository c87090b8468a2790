import Derived.Test.YtdbpglhdicmhhaaGreatDoorMLi5
import Derived.Test.YtdbpglhdicmhhaaGreatDoorMLi37
import Derived.Test.YtdbpglhdicmhhaaGreatDoorRows
import Derived.OpenShut
import Derived.Laws.Rows
import Derived.FnData
import Derived.HandedShaped
import Derived.Stop.LaidErr
import Derived.Lib.LaidTab
import Derived.ChangeSlices
import Derived.Shelf.Vars
import Derived.Test.YtdbpglhdicmhhaaGreatDoorCards
import Derived.Test.YtdbpglhdicmhhaaGreatDoorTie
import Derived.WalkKit
import Derived.ProofKit
import Derived.ShutString
import Derived.ChangeOld
import Derived.Below
import Derived.SizedLaws
import Derived.Lib.SmallJoins
import Derived.Deep.DeepHandedRow
import Derived.Deep.DeepWitnessRowRef
import Derived.Deep.DeepLaidRun
set_option linter.unusedVariables false
set_option linter.unusedSimpArgs false
section
namespace Go.Proofs.YtdbpglhdicmhhaaGreatDoor.Laid
open Go.RowKit Go.Proofs.YtdbpglhdicmhhaaGreatDoorW.PrintWords
theorem laidVars_mem {P : Program} {w : World} {name : String} {d : DataW Unit} : ∀ {laid : List (String × DataW Unit)} {ps : List MemPlace},DataW.LaidVars P w laid ps → (name,d) ∈ laid →
  ∃ g t cs fuel p,P.globalNamed name = some g ∧ (P.globals[g]?).map (·.type) = some t ∧ w.var? P name = some cs ∧ DataW.trod (fun _ => ()) P w 0 (fun _ => true) false fuel t cs.toList = some (d,p)
 | [],_,_,hm => by simp at hm
 | (n',d') :: r,ps,h,hm => by
  obtain ⟨g,t,cs,fuel,p,q,h1,h2,h3,h4,h5,_⟩:=h
  rcases List.mem_cons.1 hm with e | hm
  ·obtain ⟨rfl,rfl⟩:=Prod.mk.inj e
   exact ⟨g,t,cs,fuel,p,h1,h2,h3,h4⟩
  ·exact laidVars_mem h5 hm
def eight : List (String × DataW Unit) := [("math/bits.deBruijn32tab", Rows.laid_math_bits_deBruijn32tab), ("math/bits.deBruijn64tab", Rows.laid_math_bits_deBruijn64tab), ("internal/strconv.uint64pow10", Rows.laid_internal_strconv_uint64pow10), ("unicode/utf8.acceptRanges", Rows.laid_unicode_utf8_acceptRanges), ("strconv.ErrRange", Rows.laid_strconv_ErrRange), ("strconv.ErrSyntax", Rows.laid_strconv_ErrSyntax), ("rota/listing.order", Rows.laid_rota_listing_order), ("unicode/utf8.first", Rows.laid_unicode_utf8_first)]
theorem star : "*" ++ "errors.errorString" = "*errors.errorString" := by decide
theorem row191 (u : TypeId) (h : Tryz.prog.typeName? 3 u = some "*errors.errorString") : u = 191 :=
 typeName_ptr_named (nm := "errors.errorString") (by rw [star]; kernel_rfl) (by kernel_rfl) (by decide) u (by rw [star]; exact h)
theorem err_at {W : World} {n : String} {text : List UInt8} {r : List (String × DataW Unit)} {g : Nat} (h : laidMet Tryz.prog ((n, .iface "*errors.errorString" (.ptr (.agg [.lit (.string text)]))) :: r) W) (hg : Tryz.prog.globalNamed n = some g) (ht : (Tryz.prog.globals[g]?).map (·.type) = some 91) :
  ∃ te pe,W.cell? ⟨g,0,none⟩ = some (.iface te pe):=by
 have hi : Tryz.prog.underlying 91 = some (.interface #[("Error", 99)]) := by kernel_rfl
 obtain ⟨a, s, hv, _, _, _⟩ := laid_sentinel h hg ht (ti := 91) (tp := 191) (te := 193) (ts := 9) hi row191 (by kernel_rfl) (show Tryz.prog.underlying 193 = some (.struct #[{ name := "s", type := 9, offset := 0, embedded := false, tag := "", pkgPath := "errors", byteOffset := 0 }]) by kernel_rfl) rfl rfl Tryz.underlying9 (by kernel_rfl) (by kernel_rfl)
 exact ⟨_,_,(World.var?_cell hg hv 0).trans rfl⟩
theorem ord_at {W : World} (h : laidMet Tryz.prog eight W) : ∃ A c,W.cell? ⟨0,0,none⟩ = some (.slice A 5 c) ∧ 5 ≤ c ∧ Kd.C (Kd.int .i64) W A 5 Hof.ordL:=by
 obtain ⟨ps,hps,_⟩:=h
 obtain ⟨g, t, cs, fuel, p, hg, ht, hvar, hd⟩ := laidVars_mem hps (show ("rota/listing.order", Rows.laid_rota_listing_order) ∈ eight by simp [eight])
 obtain rfl := Option.some.inj (hg.symm.trans (show Tryz.prog.globalNamed "rota/listing.order" = some 0 by kernel_rfl))
 obtain rfl:=Option.some.inj (ht.symm.trans (show (Tryz.prog.globals[0]?).map (·.type) = some 141 by kernel_rfl))
 rcases Go.ChangeShapes.open_ints (show Tryz.prog.underlying 141 = some (.slice 27) by kernel_rfl) (show Tryz.prog.underlying 27 = some (.int .i64) by kernel_rfl) (by kernel_rfl) hd with ⟨_,h2⟩ | ⟨a,len,cap,zs,hcs,_,hlc,hcm,hz,hx,hcell,_⟩
 ·injection h2 with h2 _
  unfold Rows.laid_rota_listing_order at h2
  cases h2
 ·have hx1:=congrArg Prod.fst hx
  unfold Rows.laid_rota_listing_order at hx1
  injection hx1 with e1 e2
  have hlen : (zs.take len) = Hof.ordL:=by
   have e3 : (Go.ChangeShapes.lits .i64 (zs.take len) : List (DataW Unit)) = Go.ChangeShapes.lits .i64 Hof.ordL:=e1.symm
   have inj : ∀ (x y : List Int),(Go.ChangeShapes.lits .i64 x : List (DataW Unit)) = Go.ChangeShapes.lits .i64 y → x = y:=by
    intro x
    induction x with
    | nil => intro y h; cases y with
     | nil => rfl
     | cons b y => cases h
    | cons a x ih => intro y h; cases y with
     | nil => cases h
     | cons b y =>
      have h0 : (DataW.lit (.int .i64 a) : DataW Unit) = .lit (.int .i64 b) ∧ (Go.ChangeShapes.lits .i64 x : List (DataW Unit)) = Go.ChangeShapes.lits .i64 y:=List.cons.inj h
      have h1:=h0.1
      injection h1 with h1
      injection h1 with _ h1
      rw [h1,ih y h0.2]
   exact inj _ _ e3
  have hl5 : len = 5:=by
   have h5:=congrArg List.length hlen
   rw [List.length_take] at h5
   have : Hof.ordL.length = 5:=rfl
   have hle : len ≤ zs.length:=by rw [hz]; split <;> omega
   omega
  subst hl5
  obtain rfl : cs = #[.slice (some a) 5 cap]:=Array.toList_inj.1 hcs
  refine ⟨some a,cap,(World.var?_cell hg hvar 0).trans rfl,hlc,rfl,by decide,fun _ => ⟨a,rfl,fun j q hj => ?_⟩⟩
  have hj5 : j < 5:=(List.getElem?_eq_some_iff.1 hj).1
  have hle : 5 ≤ zs.length:=by rw [hz]; split <;> omega
  have hq : zs.getD j 0 = q:=by
   have h6 : (zs.take 5)[j]? = some q:=by rw [hlen]; exact hj
   rw [List.getElem?_take,if_pos hj5] at h6
   rw [List.getD_eq_getElem?_getD,h6]; rfl
  refine ⟨[.int .i64 q],rfl,rfl,fun i u hu => ?_⟩
  have hi0 : i = 0:=by
   rcases i with _ | i
   ·rfl
   ·simp at hu
  subst hi0
  have hu' : u = .int .i64 q:=by simpa using hu.symm
  rw [hu',← hq,show j * (Kd.int .i64).sz + 0 = j by show j * 1 + 0 = j; omega]
  exact hcell j (by omega)
theorem std_of {W : World} (h : laidMet Tryz.prog eight W) (hS : W.ShapedOpen Tryz.prog) : Hof.Std W:=by
 have hr:=laidMet.tail (laidMet.tail (laidMet.tail (laidMet.tail h)))
 have hs:=laidMet.tail hr
 obtain ⟨m,hm⟩:=cell_of_shapedOpen_int (P:=Tryz.prog) (g:=1) (t:=3) (zero:=#[.int .i64 0]) hS (of_decide_eq_true (by kernel_rfl)) (by kernel_rfl) rfl (by kernel_rfl) (by kernel_rfl) Tryz.underlying3
 have h5:=err_at (g:=5) hs (by kernel_rfl) (by kernel_rfl)
 have h6:=err_at (g:=6) hr (by kernel_rfl) (by kernel_rfl)
 have hsize : 6 < W.heap.size:=by
  obtain ⟨te,pe,hc⟩:=h6
  exact World.block_lt_of_cell? W ⟨6,0,none⟩ hc
 exact ⟨hsize,⟨m,hm⟩,h5,h6,ord_at h⟩
theorem tab_of {w : World} (h : laidMet Tryz.prog eight w) : Hof.TB w:=by
 obtain ⟨ps,hps,_⟩:=h
 obtain ⟨g, t, cs, fuel, p, hg, ht, hvar, hd⟩ := laidVars_mem hps (show ("internal/strconv.uint64pow10", Rows.laid_internal_strconv_uint64pow10) ∈ eight by simp [eight])
 have e : (Rows.laid_internal_strconv_uint64pow10 : DataW Unit) = Lib.tabData .u64 Lib.pow10Tab:=by kernel_rfl
 rw [e] at hd
 obtain rfl := Option.some.inj (hg.symm.trans (show Tryz.prog.globalNamed "internal/strconv.uint64pow10" = some 2 by kernel_rfl))
 obtain rfl:=Option.some.inj (ht.symm.trans (show (Tryz.prog.globals[2]?).map (·.type) = some 168 by kernel_rfl))
 have hc:=Lib.cells_of_tab (show Tryz.prog.underlying 168 = some (.array 20 158) by kernel_rfl) (show Tryz.prog.underlying 158 = some (.int .u64) by kernel_rfl) (by kernel_rfl) (by kernel_rfl) hd
 refine Lib.tabBelow_of_tabIs ?_
 unfold Lib.TabIs
 rw [hvar,← hc]
theorem lib_of {W : World} (h : laidMet Tryz.prog eight W) (hS : W.ShapedOpen Tryz.prog) : LibStd W:=⟨std_of h hS,tab_of h⟩
end Go.Proofs.YtdbpglhdicmhhaaGreatDoor.Laid
namespace Go.Proofs.YtdbpglhdicmhhaaGreatDoor.Q
open Go.RowKit Go.Proofs.YtdbpglhdicmhhaaGreatDoorW.PrintWords Go.Proofs.YtdbpglhdicmhhaaGreatDoor.Opn
theorem wf_u32 {n : Int} (h : (Lit.int IntKind.u32 n).wf = true) : 0 ≤ n ∧ n < 4294967296:=by
 unfold Lit.wf at h
 rw [Bool.and_eq_true] at h
 have a:=of_decide_eq_true h.1
 have b:=of_decide_eq_true h.2
 rw [show IntKind.u32.min = 0 by decide] at a
 rw [show IntKind.u32.max = 4294967295 by decide] at b
 omega
end Go.Proofs.YtdbpglhdicmhhaaGreatDoor.Q
end

section
namespace Go.Proofs.YtdbpglhdicmhhaaGreatDoor.listingLines
open Go.ChangeShapes Go.WideShapes Go.ChangeAt Go.RowKit Go.Proofs.YtdbpglhdicmhhaaGreatDoorW.PrintWords Go.Proofs.YtdbpglhdicmhhaaGreatDoor.Opn
open Go.ChangeMaps (open_string shut_string)
theorem own : ownKnob Tryz.prog.godebug = none:=by kernel_rfl
theorem laidOut : laidOutB Tryz.prog = true:=by kernel_rfl
set_option maxRecDepth 100000 in
theorem contract (H : Type) (enc : TypeId × Value → H) (W : World) (base : Nat) (args : Array Value) (ds gs : List (DataW H)) (before : List MemPlace)
  (hval0 : ∀ (j : Nat) t v,Tryz.f4.params[j]? = some t → args[j]? = some v → Value.okWide Tryz.prog W .any base t v)
  (hW : DataW.Whole enc Tryz.prog Tryz.f4.params.toList Rows.listingLinesSpec.vars false W args.toList ds gs before)
  (hsz0 : (DataW.weightsEach Tryz.prog (Tryz.f4.params.toList ++ (OpenSpec.ofChange Rows.listingLinesSpec).bare.plain.varTypes Tryz.prog) (ds ++ gs)).all (· ≤ reachBytes) = true)
  (hSh : W.ShapedOpen Tryz.prog)
  (hL : laidMetH Tryz.prog Rows.listingLinesRow.laid W) :
  Calls Tryz.prog 4 args W fun e W' => ∃ v,e = .returned v ∧ Rows.listingLinesSpec.post enc Tryz.prog Tryz.f4 false true false false W args v W':=by
 have hsz : (DataW.weightsEach Tryz.prog (Tryz.f4.params.toList ++ Rows.listingLinesSpec.plain.varTypes Tryz.prog) (ds ++ gs)).all (· ≤ reachBytes) = true:=hsz0
 have hval : ∀ (j : Nat) t v,Tryz.f4.params[j]? = some t → args[j]? = some v → Value.okWide Tryz.prog W .any base t v:=hval0
 have hStd : Laid.LibStd W:=Laid.lib_of (show laidMet Tryz.prog Laid.eight W from hL) hSh
 have hW':=hW
 obtain ⟨p,q,hA0,hV,rfl,hfz,hnd⟩:=hW
 have hA : DataW.TrodAll enc Tryz.prog W 0 (fun _ => true) true Tryz.f4.params.toList args.toList ds p:=hA0
 rw [Tryz.params4] at hA hval hsz
 obtain ⟨v0,vs0,d0,ds0,p0,q0,hargs,rfl,rfl,h0,r0⟩:=trodAll_cons hA
 obtain ⟨v1,vs1,d1,ds1,p1,q1,rfl,rfl,rfl,h1,r1⟩:=trodAll_cons r0
 obtain ⟨rfl,rfl,rfl⟩:=trodAll_nil r1
 obtain rfl : args = #[v0,v1]:=by cases args; simp_all
 obtain ⟨rfl,rfl⟩:=trodVars_none hV
 have k0:=h0
 have lt0 : ∀ x ∈ p0,x.block < W.heap.size:=by obtain ⟨m,hm⟩:=k0; exact DataW.trod_lt m _ _ _ hm
 have ws0 : ∀ n ∈ d0.weights Tryz.prog 26,n ≤ reachBytes:=fun n hn => by simpa using List.all_eq_true.1 hsz n (DataW.weights_mem_each (j:=0) rfl rfl n hn)
 obtain ⟨x0,K0,G0⟩ : ∃ x,(Kinds.k26).K W x v0.cells.toList ∧ Kinds.G26 x (Rows.uptoBulk d0):=by
  obtain ⟨fuel,hf⟩:=h0
  exact Kinds.o26.opens enc W 0 _ _ fuel _ _ hf ws0
 obtain ⟨cs0,rfl,_⟩:=Go.WideShapes.okWide_struct Tryz.underlying26 (hval 0 26 v0 rfl rfl)
 obtain ⟨Aa0,ca0,Ab0,cb0,Ac0,cc0,hcs0,la0,ga0,lb0,gb0,lc0,gc0⟩:=Kinds.k26_open K0
 obtain rfl : cs0 = #[.slice Aa0 x0.code.length ca0,.slice Ab0 x0.funcs.length cb0,.slice Ac0 x0.tabs.length cc0]:=Array.toList_inj.1 hcs0
 have k1:=h1
 have lt1 : ∀ x ∈ p1,x.block < W.heap.size:=by obtain ⟨m,hm⟩:=k1; exact DataW.trod_lt m _ _ _ hm
 have ws1 : ∀ n ∈ d1.weights Tryz.prog 3,n ≤ reachBytes:=fun n hn => by simpa using List.all_eq_true.1 hsz n (DataW.weights_mem_each (j:=1) rfl rfl n hn)
 obtain ⟨a1,rfl,rfl,rfl,w1⟩:=open_int Tryz.underlying3 (hval 1 3 v1 rfl rfl) h1
 clear hA0 hval hsz
 obtain ⟨kk,hkk⟩:=Q.lines_law (Kinds.mild G0) (Kinds.words G0) a1
 refine (GA.rotalaw07_ListingLines.calls kk _ _ x0.code _ _ x0.funcs _ _ x0.tabs a1 true W hStd ga0 la0 gb0 lb0 gc0 lc0 hkk).mono fun e W' ⟨he,bel⟩ => ?_
 subst he
 exact ⟨_,rfl,_,_,_,[],_,[],hW',trodAll_mk1 (shut_bool Tryz.underlying4 _),(trodAll_cons_mk (Below.trod laidOut (by kernel_rfl) (of_decide_eq_true (by kernel_rfl)) k0 bel lt0) (trodAll_cons_mk (Below.trod laidOut (by kernel_rfl) (of_decide_eq_true (by kernel_rfl)) k1 bel lt1) trodAll_mk0)),rfl,bel.frame _,fun h => by cases h⟩
def lay (cs : Array Value) : Obj → Obj
 | .cells _ t frozen => .cells cs t frozen
 | o => o
noncomputable def laidWorld (os : Os) : World:={ World.holding Tryz.prog os ⟨#[],#[],[]⟩ with heap:=((((((((((((World.holding Tryz.prog os ⟨#[],#[],[]⟩).heap.modify 0 (lay #[.slice (some ⟨(World.holding Tryz.prog os ⟨#[],#[],[]⟩).heap.size + 2,0,none⟩) 5 5])).modify 2 (lay #[.int .u64 1,.int .u64 10,.int .u64 100,.int .u64 1000,.int .u64 10000,.int .u64 100000,.int .u64 1000000,.int .u64 10000000,.int .u64 100000000,.int .u64 1000000000,.int .u64 10000000000,.int .u64 100000000000,.int .u64 1000000000000,.int .u64 10000000000000,.int .u64 100000000000000,.int .u64 1000000000000000,.int .u64 10000000000000000,.int .u64 100000000000000000,.int .u64 1000000000000000000,.int .u64 10000000000000000000])).modify 5 (lay #[.iface 191 (.pointer (some ⟨(World.holding Tryz.prog os ⟨#[],#[],[]⟩).heap.size,0,none⟩))])).modify 6 (lay #[.iface 191 (.pointer (some ⟨(World.holding Tryz.prog os ⟨#[],#[],[]⟩).heap.size + 1,0,none⟩))])).modify 3 (lay (Go.Pinned.utf8FirstZ.map fun (n : Nat) => Value.int .u8 (n : Int)).toArray)).modify 4 (lay #[.int .u8 128,.int .u8 191,.int .u8 160,.int .u8 191,.int .u8 128,.int .u8 159,.int .u8 144,.int .u8 191,.int .u8 128,.int .u8 143,.int .u8 0,.int .u8 0,.int .u8 0,.int .u8 0,.int .u8 0,.int .u8 0,.int .u8 0,.int .u8 0,.int .u8 0,.int .u8 0,.int .u8 0,.int .u8 0,.int .u8 0,.int .u8 0,.int .u8 0,.int .u8 0,.int .u8 0,.int .u8 0,.int .u8 0,.int .u8 0,.int .u8 0,.int .u8 0])).modify 7 (lay #[.int .u8 0,.int .u8 1,.int .u8 28,.int .u8 2,.int .u8 29,.int .u8 14,.int .u8 24,.int .u8 3,.int .u8 30,.int .u8 22,.int .u8 20,.int .u8 15,.int .u8 25,.int .u8 17,.int .u8 4,.int .u8 8,.int .u8 31,.int .u8 27,.int .u8 13,.int .u8 23,.int .u8 21,.int .u8 19,.int .u8 16,.int .u8 7,.int .u8 26,.int .u8 12,.int .u8 18,.int .u8 6,.int .u8 11,.int .u8 5,.int .u8 10,.int .u8 9])).modify 8 (lay #[.int .u8 0,.int .u8 1,.int .u8 56,.int .u8 2,.int .u8 57,.int .u8 49,.int .u8 28,.int .u8 3,.int .u8 61,.int .u8 58,.int .u8 42,.int .u8 50,.int .u8 38,.int .u8 29,.int .u8 17,.int .u8 4,.int .u8 62,.int .u8 47,.int .u8 59,.int .u8 36,.int .u8 45,.int .u8 43,.int .u8 51,.int .u8 22,.int .u8 53,.int .u8 39,.int .u8 33,.int .u8 30,.int .u8 24,.int .u8 18,.int .u8 12,.int .u8 5,.int .u8 63,.int .u8 55,.int .u8 48,.int .u8 27,.int .u8 60,.int .u8 41,.int .u8 37,.int .u8 16,.int .u8 46,.int .u8 35,.int .u8 44,.int .u8 21,.int .u8 52,.int .u8 32,.int .u8 23,.int .u8 11,.int .u8 54,.int .u8 26,.int .u8 40,.int .u8 15,.int .u8 34,.int .u8 20,.int .u8 31,.int .u8 10,.int .u8 25,.int .u8 14,.int .u8 19,.int .u8 9,.int .u8 13,.int .u8 8,.int .u8 7,.int .u8 6])).push (.cells #[.string ⟨#[105,110,118,97,108,105,100,32,115,121,110,116,97,120]⟩] 193)).push (.cells #[.string ⟨#[118,97,108,117,101,32,111,117,116,32,111,102,32,114,97,110,103,101]⟩] 193)).push (.cells #[.int .i64 70,.int .i64 73,.int .i64 74,.int .i64 72,.int .i64 71] 27)) }
theorem laid_met (os : Os) : laidMet Tryz.prog Rows.listingLinesRow.laid ((laidWorld os).forCall (fun _ _ => 0) ⟨#[],#[.agg #[.slice none 0 0,.slice none 0 0,.slice none 0 0],.int .i64 0],[]⟩).memory:=laidMet_of_run3 8 (by kernel_rfl) (by kernel_rfl) (by kernel_rfl)
theorem reads (os : Os) {H : Type} (enc : TypeId × Value → H) : ∃ places,DataW.whole enc Tryz.prog ((laidWorld os).forCall (fun _ _ => 0) ⟨#[],#[.agg #[.slice none 0 0,.slice none 0 0,.slice none 0 0],.int .i64 0],[]⟩).memory Tryz.f4.params.toList Rows.listingLinesSpec.vars false (#[.agg #[.slice none 0 0,.slice none 0 0,.slice none 0 0],.int .i64 0] : Array Value).toList 8 = some ([.agg [.nil,.nil,.nil],.lit (.int .i64 0)],[],places):=⟨[],by kernel_rfl⟩
set_option maxRecDepth 100000 in
theorem lifted (os : Os) (started : os.Started) (H : Type) (enc : TypeId × Value → H) (F : Stop.Interp) :
  ReturnsInHanded {} Tryz.checked os 4 .any ((OpenSpec.ofChange Rows.listingLinesSpec).preRow enc Tryz.prog Tryz.f4 Rows.listingLinesRow.domain false Rows.listingLinesRow.laid) (((OpenSpec.ofChange Rows.listingLinesSpec).at F).post enc Tryz.prog Tryz.f4 false true false false):=by
 obtain ⟨places,hx⟩:=reads os enc
 refine returnsInHanded_of_row (C:=Tryz.checked) (s:=(OpenSpec.ofChange Rows.listingLinesSpec)) own started (by kernel_rfl) Tryz.func4
  (witness_row_atRef (enc:=enc) (C:=Tryz.checked) false (laidWorld os) #[.agg #[.slice none 0 0,.slice none 0 0,.slice none 0 0],.int .i64 0] rfl (by kernel_rfl) (by kernel_rfl) (by kernel_rfl)
   (OpenSpec.preRow_of_cond 8 hx (by kernel_rfl) (fun k hk => by cases hk) (by kernel_rfl) (laid_met os))) ?_
 intro W base args ds gs before hval hW _ _ hsz hL hSh _
 exact contract H enc W base args ds gs before hval hW hsz hSh hL
theorem said : Rows.ListingLinesSaid :=
 OpenClaim.holds_of_cond 4 Tryz.f4 rfl rfl rfl rfl rfl rfl rfl ⟨rfl,rfl,rfl,rfl,rfl⟩ rfl rfl rfl rfl rfl (by kernel_rfl) Tryz.func4 (by kernel_rfl)
  (of_decide_eq_true (by kernel_rfl)) (by unfold Func.isWrapper; first | (rw [if_pos (by decide +kernel)]; kernel_rfl) | (rw [if_neg (by decide +kernel)]; exact ⟨rfl,rfl⟩))
  (fun os started H enc _ F => by rw [OpenClaim.pre_eq_preRow]; exact lifted os started H enc F)
theorem plain (f : FuncId) (fn : Func) (hf : Tryz.pinned.checked.prog.funcNamed Rows.listingLinesRow.func = some f) (hfn : Tryz.pinned.checked.prog.funcs[f]? = some fn) :
  true = Tryz.pinned.checked.prog.looks [] ∧ ∀ (j : Nat) t,fn.params[j]? = some t → Tryz.pinned.checked.prog.wantsStandIn t = false:=by
 obtain rfl : f = 4:=Option.some.inj ((show Tryz.prog.funcNamed Rows.listingLinesRow.func = some 4 by kernel_rfl).symm.trans hf) |>.symm
 obtain rfl : fn = Tryz.f4:=(Option.some.inj (Tryz.func4.symm.trans hfn)).symm
 refine ⟨by kernel_rfl,fun j t ht => ?_⟩
 rw [Tryz.params4] at ht
 have hm:=Array.mem_of_getElem? ht
 simp at hm
 rcases hm with rfl | rfl
 ·exact (show Tryz.prog.wantsStandIn 26 = false by kernel_rfl)
 ·exact (show Tryz.prog.wantsStandIn 3 = false by kernel_rfl)
theorem card : Rows.ListingLinesCardSaid :=
 Claim7.holds_tied_plain_at .later [] _ _ _ _ said (fun _ h => by cases h) (by kernel_rfl) (fun _ h => by cases h) listingLines_row_tie rfl ⟨rfl,rfl⟩ (by kernel_rfl) rfl plain (by kernel_rfl)
end Go.Proofs.YtdbpglhdicmhhaaGreatDoor.listingLines
namespace Go.Proofs.YtdbpglhdicmhhaaGreatDoor
theorem listingLines_holds : Rows.ListingLinesCardSaid:=listingLines.card
end Go.Proofs.YtdbpglhdicmhhaaGreatDoor
end
