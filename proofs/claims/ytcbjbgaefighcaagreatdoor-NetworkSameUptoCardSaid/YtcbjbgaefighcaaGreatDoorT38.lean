/- Part 38 of the proof. -/
import Derived.Test.YtcbjbgaefighcaaGreatDoorT0
import Derived.Test.YtcbjbgaefighcaaGreatDoorT37
import Derived.Deep.DeepWitnessRowRef
import Derived.Lib.LaidIn
import Derived.JoinedCond
set_option linter.all false
namespace Go.Proofs.YtcbjbgaefighcaaGreatDoor
open Go Go.Ax Go.Proofs Go.ChangeShapes Go.WideShapes Go.ChangeAt Go.RowKit Go.Lib
theorem repL_two {κ:Kn}{a b:AV}{u v:Value}(h:Qd κ a u)(k:Qd κ b v):Qi κ [a,b] [u,v]:=by
 simp only[Qi];exact⟨_,_,rfl,h,_,_,rfl,k,rfl⟩
theorem Mg {H:Type}{enc:TypeId×Value→H}{W:World}{base:Nat}{v:Value}{d:DataW H}{p:List MemPlace}(hv:Value.okWide Tryz.prog W .any base 29 v)(h:DataW.Trod enc Tryz.prog W 0 (fun _=>true) true 29 v d p):
 ∃m:Model,Qd (κW W) (.agg m.cells) v∧wM m≤Rows.uptoBulk d:=by
 obtain⟨n,h⟩:=h
 obtain⟨m,h1,h2⟩:=rd_M n n (fG _) _ _ h
 refine⟨m,?_,h2⟩
 simp only[Value.okWide,Tryz.underlying29]at hv
 obtain⟨cs,rfl,_⟩:=hv
 simp only[Qd]
 exact⟨cs,rfl,h1⟩
set_option maxRecDepth 100000 in
theorem Ll (H:Type)(enc:TypeId×Value→H)(W:World)(base:Nat)(args:Array Value)(ds gs:List (DataW H))(before:List MemPlace)
 (hval:∀(j:Nat) t v,Tryz.f5.params[j]? =some t→args[j]? =some v→Value.okWide Tryz.prog W .any base t v)
 (hW:DataW.Whole enc Tryz.prog Tryz.f5.params.toList Rows.networkSameSpec.vars false W args.toList ds gs before)(hb:Rows.uptoBulkAll (ds++gs)≤1048576)(hL:laidMetH Tryz.prog LA W):
 Calls Tryz.prog 5 args W fun e W'=>∃v,e=.returned v∧Rows.networkSameSpec.post enc Tryz.prog Tryz.f5 false true false false W args v W':=by
 have hW':=hW
 obtain⟨p,q,hA0,hV,rfl,_,_⟩:=hW
 have hA:DataW.TrodAll enc Tryz.prog W 0 (fun _=>true) true Tryz.f5.params.toList args.toList ds p:=hA0
 rw[Tryz.params5]at hA hval
 obtain⟨v0,vs0,d0,ds0,p0,q0,hargs,rfl,rfl,h0,r0⟩:=trodAll_cons hA
 obtain⟨v1,vs1,d1,ds1,p1,q1,rfl,rfl,rfl,h1,r1⟩:=trodAll_cons r0
 obtain⟨rfl,rfl,rfl⟩:=trodAll_nil r1
 obtain rfl:args=#[v0,v1]:=by cases args;simp_all
 obtain⟨rfl,rfl⟩:=trodVars_none hV
 obtain⟨a,ha,wa⟩:=Mg (hval 0 29 v0 rfl rfl) h0
 obtain⟨b,hb',wb⟩:=Mg (hval 1 29 v1 rfl rfl) h1
 simp only[cF,cI,Rows.uptoBulkAll]at hb
 obtain⟨la,sa⟩:=FA a (by omega)
 obtain⟨lb,_⟩:=FA b (by omega)
 obtain⟨G,hG,hr⟩:=PI hL
 have hc:=(n5 G hG a b (A:=fun _=>none) la lb sa).2 (κW W) W hr #[v0,v1] (repL_two ha hb')
 refine hc.mono fun e W' ⟨κ',A',o,_,hs,ho,hk⟩=> ?_
 obtain⟨rfl,rfl⟩:=hk
 have he:e=.returned (.bool true):=by
  simp only[Iy]at ho
  obtain⟨u,rfl,hu⟩:=ho
  rw[Js hu]
 subst he
 have same:=So hs
 have hlt:=hW'.lt
 refine⟨_,rfl,SH (f:=Tryz.f5) (s:=Rows.networkSameSpec) rfl rfl ⟨rfl,rfl,rfl⟩ same hs.os hs.output hW' fun sp hsp=> ?_⟩
 rw[Tryz.params5,show(p0++(p1++[])++[]:List MemPlace)=p0++(p1++[])from cN _]
 exact trodAll_cons_mk (NQ same h0 (fun x hx=>hlt x (by simp [hx])) fun x hx=>hsp x (by simp [hx])) (trodAll_cons_mk (NQ same h1 (fun x hx=>hlt x (by simp [hx])) fun x hx=>hsp x (by simp [hx])) trodAll_mk0)
theorem own:ownKnob Tryz.prog.godebug=none:=by kernel_rfl
def OB:DataW Unit→Array Value
 | .agg l=>(l.map fun| .lit (.int k n)=>Value.int k n|_=>.nilFunc).toArray
 |_=>#[]
def TC:DataW Unit→Value
 | .iface _ (.ptr (.agg [.lit (.string s)]))=>.string ⟨s.toArray⟩
 |_=>.nilFunc
noncomputable def II (os:Os):World:=
 let N:=(World.settled Tryz.prog os).heap.size
 let w0:=World.holding Tryz.prog os ⟨#[.cells #[TC Rows.laid_strconv_ErrSyntax] 300,.cells #[TC Rows.laid_strconv_ErrRange] 300],#[],[]⟩
 let put (h:Array Obj) (g:Nat) (cs:Array Value):Array Obj:=h.modify g fun
  | .cells _ t frozen=>.cells cs t frozen
  |o=>o
 let h0:=put (put w0.heap 4 #[.iface 298 (.pointer (some ⟨N,0,none⟩))]) 5 #[.iface 298 (.pointer (some ⟨N+1,0,none⟩))]
 let h1:=put (put (put h0 1 (OB Rows.laid_internal_strconv_uint64pow10)) 2 (OB Rows.laid_math_bits_deBruijn32tab)) 3 (OB Rows.laid_math_bits_deBruijn64tab)
 {w0 with heap:=h1}
def IX:Value:=.agg #[.string ⟨#[]⟩,.slice none 0 0,.slice none 0 0,.slice none 0 0,.slice none 0 0,.slice none 0 0]
def NT {H:Type}:DataW H:=.agg [.lit (.string []),.nil,.nil,.nil,.nil,.nil]
theorem Np (os:Os)(args:Array Value):laidMet Tryz.prog LA ((II os).forCall (fun _ _=>0) ⟨#[],args,[]⟩).memory:=
 laidMet_of_run' 8 (by kernel_rfl) (by kernel_rfl)
theorem DX (os:Os){H:Type}(enc:TypeId×Value→H):∃places,DataW.whole enc Tryz.prog ((II os).forCall (fun _ _=>0) ⟨#[],#[IX,IX],[]⟩).memory Tryz.f5.params.toList Rows.networkSameSpec.vars false #[IX,IX].toList 8=some ([NT,NT],[],places):=
 ⟨[],by kernel_rfl⟩
set_option maxRecDepth 100000 in
theorem MK (os:Os)(started:os.Started)(H:Type)(enc:TypeId×Value→H)(F:Stop.Interp):
 ReturnsInHanded {} Tryz.checked os 5 .any ((Rows.OpenSpec.upto Rows.networkSameSpec).preRow enc Tryz.prog Tryz.f5 Rows.networkSameUptoRow.domain false Rows.networkSameUptoRow.laid) (((Rows.OpenSpec.upto Rows.networkSameSpec).at F).post enc Tryz.prog Tryz.f5 false true false false):=by
 obtain⟨places,hx⟩:=DX os enc
 refine returnsInHanded_of_row (C:=Tryz.checked) (s:=Rows.OpenSpec.upto Rows.networkSameSpec) own started (by kernel_rfl) Tryz.func5
  (witness_row_atRef (enc:=enc) (C:=Tryz.checked) false (II os) #[IX,IX] rfl (by kernel_rfl) (by kernel_rfl) (by kernel_rfl)
   (OpenSpec.preRow_of_cond 8 hx (by kernel_rfl) (fun k hk=>by cases hk;kernel_rfl) (by kernel_rfl) (Np os _))) ?_
 intro W base args ds gs before hval hW _ hcond _ hL _ _
 exact Ll H enc W base args ds gs before hval hW (fE (hcond _ rfl)) hL
end Go.Proofs.YtcbjbgaefighcaaGreatDoor
namespace Go.Proofs.YtcbjbgaefighcaaGreatDoor
open Go
theorem JL {a b:Bool}(h:a=true)(k:b=true):(a&&b)=true:=by rw[h,k];rfl
theorem cl0:(Rows.networkSameUptoRow.wf (OpenSpec.ofChange (Rows.OpenSpec.upto Rows.networkSameSpec).bare))=true:=by kernel_rfl
theorem cl1:(laidOutB Tryz.pinned.checked.prog)=true:=by kernel_rfl
theorem LI:(mapsRowed Tryz.pinned.checked.prog)=true:=by kernel_rfl
theorem cl3:(Tryz.f5.params.all (Tryz.pinned.checked.prog.readableRec ·))=true:=by kernel_rfl
theorem cl4:(namedTie Tryz.pinned.checked.prog Rows.networkSameUptoRow.named (Rows.OpenSpec.upto Rows.networkSameSpec).bare.vars)=true:=by kernel_rfl
theorem cl5:((Rows.networkSameUptoRow.stops==[]))=true:=by kernel_rfl
theorem cl6:((Tryz.pinned.checked.prog.stops==[]))=true:=by kernel_rfl
theorem cl7:((Rows.networkSameUptoRow.knobs==[]))=true:=by kernel_rfl
theorem cl8:((Tryz.pinned.checked.prog.stopKnobs==[]))=true:=by kernel_rfl
theorem cl9:((Rows.networkSameUptoRow.inPlace==Tryz.pinned.checked.prog.inPlace 5))=true:=by kernel_rfl
theorem cl10:((Rows.networkSameUptoRow.unfollowed==Tryz.pinned.checked.prog.unfollowed 5))=true:=by kernel_rfl
theorem cl11:((Rows.networkSameUptoRow.recurses==Tryz.pinned.checked.prog.recurses 5))=true:=by kernel_rfl
theorem cl12:((Rows.networkSameUptoRow.named==Tryz.pinned.checked.prog.varsNamed 5))=true:=by kernel_rfl
theorem cl13:((Rows.networkSameUptoRow.maps==(Tryz.f5.params.toList++(Rows.OpenSpec.upto Rows.networkSameSpec).bare.plain.varTypes Tryz.pinned.checked.prog).any (Tryz.pinned.checked.prog.mapsRec ·)))=true:=by kernel_rfl
theorem cl14:((Rows.networkSameUptoRow.ifaces==(Tryz.f5.params.toList++(Rows.OpenSpec.upto Rows.networkSameSpec).bare.plain.varTypes Tryz.pinned.checked.prog).any (Tryz.pinned.checked.prog.ifacesRec ·)))=true:=by kernel_rfl
theorem cl15:((Rows.networkSameUptoRow.mapsOut==Tryz.pinned.checked.prog.mapsAmong Tryz.f5.resultTypes.toList))=true:=by kernel_rfl
theorem cl16:((Rows.networkSameUptoRow.loops==(Tryz.f5.params.toList++(Rows.OpenSpec.upto Rows.networkSameSpec).bare.plain.varTypes Tryz.pinned.checked.prog).any (Tryz.pinned.checked.prog.loopsFrom ·)))=true:=by kernel_rfl
theorem cl17:((Rows.networkSameUptoRow.wideKeys==(Tryz.f5.params.toList++(Rows.OpenSpec.upto Rows.networkSameSpec).bare.plain.varTypes Tryz.pinned.checked.prog++Tryz.f5.resultTypes.toList).any (Tryz.pinned.checked.prog.wideKeysFrom ·)))=true:=by kernel_rfl
theorem cl18:((Rows.OpenSpec.upto Rows.networkSameSpec).bare.vars.all (Tryz.pinned.checked.prog.varReadable ·))=true:=by kernel_rfl
theorem cl19:(Tryz.f5.resultTypes.all (fun t=>Tryz.pinned.checked.prog.readableRec t&&decide (t<Tryz.pinned.checked.prog.types.size)))=true:=by kernel_rfl
theorem cl20:((Rows.networkSameUptoRow.ifacesOut==Tryz.f5.resultTypes.toList.any (Tryz.pinned.checked.prog.ifacesRec ·)))=true:=by kernel_rfl
theorem cl21:((Rows.networkSameUptoRow.loopsOut==Tryz.f5.resultTypes.toList.any (Tryz.pinned.checked.prog.loopsFrom ·)))=true:=by kernel_rfl
theorem cl22:((Rows.networkSameUptoRow.plainKeys==Tryz.pinned.checked.prog.plainKeys))=true:=by kernel_rfl
theorem cl23:(Rows.networkSameUptoRow.shortTexts.isNone)=true:=by kernel_rfl
theorem cl24:(Tryz.pinned.checked.prog.stopsHeard)=true:=by kernel_rfl
theorem cl25:(Tryz.pinned.checked.prog.mayEnter)=true:=by kernel_rfl
theorem cl26:((Rows.networkSameUptoRow.lifted==Tryz.pinned.checked.prog.liftsFinal))=true:=by kernel_rfl
theorem cl27:((Tryz.pinned.checked.prog.make==some Rows.networkSameUptoRow.make))=true:=by kernel_rfl
theorem cl28:((Rows.networkSameUptoRow.kinds==(if Rows.networkSameUptoRow.domain.isEmpty then[]else Tryz.f5.params.toList.map fun t=>match Tryz.pinned.checked.prog.underlying t with|some (.int k)=>some k|_=>none)))=true:=by kernel_rfl
theorem cl29:((Rows.networkSameUptoRow.pinned==Rows.networkSameUptoRow.pinnedBy))=true:=by kernel_rfl
theorem cl30:((Rows.networkSameUptoRow.veiled==(Tryz.f5.params.toList++(Rows.OpenSpec.upto Rows.networkSameSpec).bare.plain.varTypes Tryz.pinned.checked.prog++Tryz.f5.resultTypes.toList).any (Tryz.pinned.checked.prog.veiledRec ·)))=true:=by kernel_rfl
theorem cl31:(Rows.networkSameUptoRow.veiledFits Tryz.pinned.checked.prog Tryz.f5.params.toList (Tryz.f5.params.toList++(Rows.OpenSpec.upto Rows.networkSameSpec).bare.plain.varTypes Tryz.pinned.checked.prog++Tryz.f5.resultTypes.toList))=true:=by kernel_rfl
set_option maxRecDepth 100000 in
theorem Rx:joinedFacts Tryz.pinned.checked.prog 5 Tryz.f5 (Rows.OpenSpec.upto Rows.networkSameSpec).bare Rows.networkSameUptoRow=true:=by
 unfold joinedFacts
 exact JL (JL (JL (JL (JL (JL (JL (JL (JL (JL (JL (JL (JL (JL (JL (JL (JL (JL (JL (JL (JL (JL (JL (JL (JL (JL (JL (JL (JL (JL (JL cl0 cl1) LI) cl3) cl4) cl5) cl6) cl7) cl8) cl9) cl10) cl11) cl12) cl13) cl14) cl15) cl16) cl17) cl18) cl19) cl20) cl21) cl22) cl23) cl24) cl25) cl26) cl27) cl28) cl29) cl30) cl31
open Go.Ax Go.Proofs Go.ChangeShapes Go.WideShapes Go.ChangeAt Go.RowKit Go.Lib
theorem Ck:Tryz.pinned.checked.prog.funcNamed Rows.networkSameUptoRow.func=some 5:=by kernel_rfl
set_option maxRecDepth 100000 in
theorem Be:Tryz.f5.isInstance Tryz.pinned.checked.prog Rows.networkSameUptoRow.origin Rows.networkSameUptoRow.targs:=fE (by kernel_rfl)
set_option maxRecDepth 100000 in
theorem CQ:Tryz.f5.isWrapper Tryz.pinned.checked.prog Rows.networkSameUptoRow.wrapper Rows.networkSameUptoRow.mainSum:=by
 unfold Func.isWrapper;first|(rw[fC (by decide+kernel)];kernel_rfl)|(rw[fD (by decide+kernel)];exact⟨rfl,rfl⟩)
set_option maxRecDepth 100000 in
theorem PL:Rows.NetworkSameUptoSaid:=
 OpenClaim.holds_of_cond 5 Tryz.f5 rfl rfl rfl rfl rfl rfl rfl ⟨rfl,rfl,rfl,rfl,rfl⟩ rfl rfl rfl rfl rfl Ck Tryz.func5 Rx Be CQ
  (fun os started H enc _ F=>by rw[OpenClaim.pre_eq_preRow];exact MK os started H enc F)
theorem plain (f:FuncId)(fn:Go.Func)(hf:Tryz.pinned.checked.prog.funcNamed "foliot/foliotlaw11.NetworkSame" =some f)(hfn:Tryz.pinned.checked.prog.funcs[f]? =some fn):
 true=Tryz.pinned.checked.prog.looks []∧∀(j:Nat) t,fn.params[j]? =some t→Tryz.pinned.checked.prog.wantsStandIn t=false:=by
 obtain rfl:f=5:=lE ((show Tryz.prog.funcNamed "foliot/foliotlaw11.NetworkSame" =some 5 by kernel_rfl).symm.trans hf) |>.symm
 obtain rfl:fn=Tryz.f5:=(lE (Tryz.func5.symm.trans hfn)).symm
 refine⟨by kernel_rfl,fun j t ht=> ?_⟩
 rw[Tryz.params5]at ht
 obtain rfl:t=29:=by simpa using Array.mem_of_getElem? ht
 exact(show Tryz.prog.wantsStandIn 29=false by kernel_rfl)
theorem same_card:Rows.NetworkSameUptoCardSaid:=
 Claim7.holds_tied_plain_at .later [] _ _ _ _ PL (fun _ h=>by cases h) (by kernel_rfl) (fun _ h=>by cases h) networkSameUpto_row_tie rfl ⟨rfl,rfl⟩ (by kernel_rfl) rfl plain (by kernel_rfl)
end Go.Proofs.YtcbjbgaefighcaaGreatDoor
