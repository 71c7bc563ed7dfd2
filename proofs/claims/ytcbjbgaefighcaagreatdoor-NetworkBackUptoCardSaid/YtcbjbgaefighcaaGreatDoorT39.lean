/- Part 39 of the proof. -/
import Derived.Test.YtcbjbgaefighcaaGreatDoorT0
import Derived.Test.YtcbjbgaefighcaaGreatDoorT35
import Derived.Test.YtcbjbgaefighcaaGreatDoorT38
import Derived.JoinedCond
set_option linter.all false
namespace Go.Proofs.YtcbjbgaefighcaaGreatDoor
open Go Go.Ax Go.Proofs Go.ChangeShapes Go.WideShapes Go.ChangeAt Go.RowKit Go.Lib
theorem jU {H:Type}{enc:TypeId×Value→H}{W:World}{base:Nat}{v:Value}{d:DataW H}{p:List MemPlace}(hv:Value.okWide Tryz.prog W .any base 42 v)(h:DataW.Trod enc Tryz.prog W 0 (fun _=>true) true 42 v d p):
 ∃m:Exp,Qc (κW W) (.agg m.cells) v∧wE m≤Rows.uptoBulk d:=by
 obtain⟨n,h⟩:=h
 obtain⟨m,h1,h2⟩:=Tm n n (fG _) _ _ h
 refine⟨m,?_,h2⟩
 simp only[Value.okWide,Tryz.underlying42]at hv
 obtain⟨cs,rfl,_⟩:=hv
 simp only[Qc]
 exact⟨cs,rfl,h1⟩
theorem qZ {P:Program}{W:World}{base:Nat}{t:TypeId}{v:Value}(ht:P.underlying t=some .string)(hv:Value.okWide P W .any base t v):∃b,v=.string b:=by
 unfold Value.okWide at hv
 rw[ht]at hv
 cases v with
 |string b=>exact⟨b,rfl⟩
 |_=>
  exfalso
  simp only[Cell.okWide,Cell.ok,ht]at hv
theorem Pk {κ:Kn}(b:ByteArray):Qc κ (.str b.data.toList) (.string b):=by simp [Qc]
set_option maxRecDepth 100000 in
theorem zA {W:World}{base:Nat}{v:Value}(hv:Value.okWide Tryz.prog W .any base 9 v):∃s:Bs,Qc (κW W) (.str s) v:=by
 obtain⟨b,rfl⟩:=qZ Tryz.underlying9 hv
 exact⟨b.data.toList,Pk b⟩
theorem Nc {H:Type}{enc:TypeId×Value→H}{W W':World}{t:TypeId}{v:Value}{d:DataW H}{ps:List MemPlace}{sp:Nat→Bool}(h1:Tryz.prog.readableRec t=true)(h2:t<Tryz.prog.types.size)(hs:∀b,b<W.heap.size→W'.heap[b]? =W.heap[b]?)
 (h:DataW.Trod enc Tryz.prog W 0 (fun _=>true) true t v d ps)(hlt:∀x∈ps,x.block<W.heap.size)(hsp:∀x∈ps,sp x.block=true):DataW.Trod enc Tryz.prog W' 0 sp true t v d ps:=
 WideElems.Trod_stays SD h1 h2 h (fun x hx=>by
  have:=hs x.block (hlt x hx)
  cases x with
  |cell b off=>simp only[MemPlace.block]at this;simp only[World.sameAt,World.cell?,this]
  |map b=>exact this) hsp
theorem yO:Tryz.prog.readableRec 9=true:=by kernel_rfl
theorem row9:9<Tryz.prog.types.size:=fE (by kernel_rfl)
theorem zJ:Tryz.prog.readableRec 42=true:=by kernel_rfl
theorem yJ:42<Tryz.prog.types.size:=fE (by kernel_rfl)
set_option maxRecDepth 100000 in
theorem MX (H:Type)(enc:TypeId×Value→H)(W:World)(base:Nat)(args:Array Value)(ds gs:List (DataW H))(before:List MemPlace)
 (hval:∀(j:Nat) t v,Tryz.f7.params[j]? =some t→args[j]? =some v→Value.okWide Tryz.prog W .any base t v)
 (hW:DataW.Whole enc Tryz.prog Tryz.f7.params.toList Rows.networkBackSpec.vars false W args.toList ds gs before)(hb:Rows.uptoBulkAll (ds++gs)≤1048576)(hL:laidMetH Tryz.prog T8 W):
 Calls Tryz.prog 7 args W fun e W'=>∃v,e=.returned v∧Rows.networkBackSpec.post enc Tryz.prog Tryz.f7 false true false false W args v W':=by
 have hW':=hW
 obtain⟨p,q,hA0,hV,rfl,_,_⟩:=hW
 have hA:DataW.TrodAll enc Tryz.prog W 0 (fun _=>true) true Tryz.f7.params.toList args.toList ds p:=hA0
 rw[Tryz.params7]at hA hval
 obtain⟨v0,vs0,d0,ds0,p0,q0,hargs,rfl,rfl,h0,r0⟩:=trodAll_cons hA
 obtain⟨v1,vs1,d1,ds1,p1,q1,rfl,rfl,rfl,h1,r1⟩:=trodAll_cons r0
 obtain⟨rfl,rfl,rfl⟩:=trodAll_nil r1
 obtain rfl:args=#[v0,v1]:=by cases args;simp_all
 obtain⟨rfl,rfl⟩:=trodVars_none hV
 obtain⟨a,ha⟩:=zA (hval 0 9 v0 rfl rfl)
 obtain⟨b,hb',wb⟩:=jU (hval 1 42 v1 rfl rfl) h1
 simp only[cF,cI,Rows.uptoBulkAll]at hb
 obtain⟨lb,_,nb⟩:=LG b (by omega)
 obtain⟨G,hG,hr⟩:=Fa hL
 have hc:=(n7 G hG a b (A:=fun _=>none) lb (by omega)).2 (κW W) W hr #[v0,v1] (repL_two ha hb')
 refine hc.mono fun e W' ⟨κ',A',o,_,hs,ho,hk⟩=> ?_
 obtain⟨rfl,rfl⟩:=hk
 have he:e=.returned (.bool true):=by
  simp only[OC]at ho
  obtain⟨u,rfl,hu⟩:=ho
  rw[Y0 hu]
 subst he
 have same:=NG hs
 have hlt:=hW'.lt
 refine⟨_,rfl,G1 (f:=Tryz.f7) (s:=Rows.networkBackSpec) rfl rfl ⟨rfl,rfl,rfl⟩ same hs.os hs.output hW' fun sp hsp=> ?_⟩
 rw[Tryz.params7,show(p0++(p1++[])++[]:List MemPlace)=p0++(p1++[])from cN _]
 exact trodAll_cons_mk (Nc yO row9 same h0 (fun x hx=>hlt x (by simp [hx])) fun x hx=>hsp x (by simp [hx])) (trodAll_cons_mk (Nc zJ yJ same h1 (fun x hx=>hlt x (by simp [hx])) fun x hx=>hsp x (by simp [hx])) trodAll_mk0)
theorem zI (os:Os){H:Type}(enc:TypeId×Value→H):∃places,DataW.whole enc Tryz.prog ((OM os).forCall (fun _ _=>0) ⟨#[],#[.string ⟨#[]⟩,.agg #[.int .i64 0,.string ⟨#[]⟩,.int .i64 0,.slice none 0 0]],[]⟩).memory Tryz.f7.params.toList Rows.networkBackSpec.vars false #[.string ⟨#[]⟩,.agg #[.int .i64 0,.string ⟨#[]⟩,.int .i64 0,.slice none 0 0]].toList 8=some ([.lit (.string []),.agg [.lit (.int .i64 0),.lit (.string []),.lit (.int .i64 0),.nil]],[],places):=
 ⟨[],by kernel_rfl⟩
set_option maxRecDepth 100000 in
theorem RZ (os:Os)(started:os.Started)(H:Type)(enc:TypeId×Value→H)(F:Stop.Interp):
 ReturnsInHanded {} Tryz.checked os 7 .any ((Rows.OpenSpec.upto Rows.networkBackSpec).preRow enc Tryz.prog Tryz.f7 Rows.networkBackUptoRow.domain false Rows.networkBackUptoRow.laid) (((Rows.OpenSpec.upto Rows.networkBackSpec).at F).post enc Tryz.prog Tryz.f7 false true false false):=by
 obtain⟨places,hx⟩:=zI os enc
 refine returnsInHanded_of_row (C:=Tryz.checked) (s:=Rows.OpenSpec.upto Rows.networkBackSpec) own started (by kernel_rfl) Tryz.func7
  (witness_row_atRef (enc:=enc) (C:=Tryz.checked) false (OM os) #[.string ⟨#[]⟩,.agg #[.int .i64 0,.string ⟨#[]⟩,.int .i64 0,.slice none 0 0]] rfl (by kernel_rfl) (by kernel_rfl) (by kernel_rfl)
   (OpenSpec.preRow_of_cond 8 hx (by kernel_rfl) (fun k hk=>by cases hk;kernel_rfl) (by kernel_rfl) (E1 os _))) ?_
 intro W base args ds gs before hval hW _ hcond _ hL _ _
 exact MX H enc W base args ds gs before hval hW (fE (hcond _ rfl)) hL
end Go.Proofs.YtcbjbgaefighcaaGreatDoor
namespace Go.Proofs.YtcbjbgaefighcaaGreatDoor
open Go
theorem JB {a b:Bool}(h:a=true)(k:b=true):(a&&b)=true:=by rw[h,k];rfl
theorem cb0:(Rows.networkBackUptoRow.wf (OpenSpec.ofChange (Rows.OpenSpec.upto Rows.networkBackSpec).bare))=true:=by kernel_rfl
theorem cb1:(laidOutB Tryz.pinned.checked.prog)=true:=by kernel_rfl
theorem cb2:(mapsRowed Tryz.pinned.checked.prog)=true:=by kernel_rfl
theorem cb3:(Tryz.f7.params.all (Tryz.pinned.checked.prog.readableRec ·))=true:=by kernel_rfl
theorem cb4:(namedTie Tryz.pinned.checked.prog Rows.networkBackUptoRow.named (Rows.OpenSpec.upto Rows.networkBackSpec).bare.vars)=true:=by kernel_rfl
theorem cb5:((Rows.networkBackUptoRow.stops==[]))=true:=by kernel_rfl
theorem cb6:((Tryz.pinned.checked.prog.stops==[]))=true:=by kernel_rfl
theorem cb7:((Rows.networkBackUptoRow.knobs==[]))=true:=by kernel_rfl
theorem cb8:((Tryz.pinned.checked.prog.stopKnobs==[]))=true:=by kernel_rfl
theorem cb9:((Rows.networkBackUptoRow.inPlace==Tryz.pinned.checked.prog.inPlace 7))=true:=by kernel_rfl
theorem cb10:((Rows.networkBackUptoRow.unfollowed==Tryz.pinned.checked.prog.unfollowed 7))=true:=by kernel_rfl
theorem cb11:((Rows.networkBackUptoRow.recurses==Tryz.pinned.checked.prog.recurses 7))=true:=by kernel_rfl
theorem cb12:((Rows.networkBackUptoRow.named==Tryz.pinned.checked.prog.varsNamed 7))=true:=by kernel_rfl
theorem cb13:((Rows.networkBackUptoRow.maps==(Tryz.f7.params.toList++(Rows.OpenSpec.upto Rows.networkBackSpec).bare.plain.varTypes Tryz.pinned.checked.prog).any (Tryz.pinned.checked.prog.mapsRec ·)))=true:=by kernel_rfl
theorem cb14:((Rows.networkBackUptoRow.ifaces==(Tryz.f7.params.toList++(Rows.OpenSpec.upto Rows.networkBackSpec).bare.plain.varTypes Tryz.pinned.checked.prog).any (Tryz.pinned.checked.prog.ifacesRec ·)))=true:=by kernel_rfl
theorem cb15:((Rows.networkBackUptoRow.mapsOut==Tryz.pinned.checked.prog.mapsAmong Tryz.f7.resultTypes.toList))=true:=by kernel_rfl
theorem cb16:((Rows.networkBackUptoRow.loops==(Tryz.f7.params.toList++(Rows.OpenSpec.upto Rows.networkBackSpec).bare.plain.varTypes Tryz.pinned.checked.prog).any (Tryz.pinned.checked.prog.loopsFrom ·)))=true:=by kernel_rfl
theorem cb17:((Rows.networkBackUptoRow.wideKeys==(Tryz.f7.params.toList++(Rows.OpenSpec.upto Rows.networkBackSpec).bare.plain.varTypes Tryz.pinned.checked.prog++Tryz.f7.resultTypes.toList).any (Tryz.pinned.checked.prog.wideKeysFrom ·)))=true:=by kernel_rfl
theorem cb18:((Rows.OpenSpec.upto Rows.networkBackSpec).bare.vars.all (Tryz.pinned.checked.prog.varReadable ·))=true:=by kernel_rfl
theorem cb19:(Tryz.f7.resultTypes.all (fun t=>Tryz.pinned.checked.prog.readableRec t&&decide (t<Tryz.pinned.checked.prog.types.size)))=true:=by kernel_rfl
theorem cb20:((Rows.networkBackUptoRow.ifacesOut==Tryz.f7.resultTypes.toList.any (Tryz.pinned.checked.prog.ifacesRec ·)))=true:=by kernel_rfl
theorem cb21:((Rows.networkBackUptoRow.loopsOut==Tryz.f7.resultTypes.toList.any (Tryz.pinned.checked.prog.loopsFrom ·)))=true:=by kernel_rfl
theorem cb22:((Rows.networkBackUptoRow.plainKeys==Tryz.pinned.checked.prog.plainKeys))=true:=by kernel_rfl
theorem cb23:(Rows.networkBackUptoRow.shortTexts.isNone)=true:=by kernel_rfl
theorem cb24:(Tryz.pinned.checked.prog.stopsHeard)=true:=by kernel_rfl
theorem cb25:(Tryz.pinned.checked.prog.mayEnter)=true:=by kernel_rfl
theorem cb26:((Rows.networkBackUptoRow.lifted==Tryz.pinned.checked.prog.liftsFinal))=true:=by kernel_rfl
theorem cb27:((Tryz.pinned.checked.prog.make==some Rows.networkBackUptoRow.make))=true:=by kernel_rfl
theorem cb28:((Rows.networkBackUptoRow.kinds==(if Rows.networkBackUptoRow.domain.isEmpty then[]else Tryz.f7.params.toList.map fun t=>match Tryz.pinned.checked.prog.underlying t with|some (.int k)=>some k|_=>none)))=true:=by kernel_rfl
theorem cb29:((Rows.networkBackUptoRow.pinned==Rows.networkBackUptoRow.pinnedBy))=true:=by kernel_rfl
theorem cb30:((Rows.networkBackUptoRow.veiled==(Tryz.f7.params.toList++(Rows.OpenSpec.upto Rows.networkBackSpec).bare.plain.varTypes Tryz.pinned.checked.prog++Tryz.f7.resultTypes.toList).any (Tryz.pinned.checked.prog.veiledRec ·)))=true:=by kernel_rfl
theorem cb31:(Rows.networkBackUptoRow.veiledFits Tryz.pinned.checked.prog Tryz.f7.params.toList (Tryz.f7.params.toList++(Rows.OpenSpec.upto Rows.networkBackSpec).bare.plain.varTypes Tryz.pinned.checked.prog++Tryz.f7.resultTypes.toList))=true:=by kernel_rfl
set_option maxRecDepth 100000 in
theorem PN:joinedFacts Tryz.pinned.checked.prog 7 Tryz.f7 (Rows.OpenSpec.upto Rows.networkBackSpec).bare Rows.networkBackUptoRow=true:=by
 unfold joinedFacts
 exact JB (JB (JB (JB (JB (JB (JB (JB (JB (JB (JB (JB (JB (JB (JB (JB (JB (JB (JB (JB (JB (JB (JB (JB (JB (JB (JB (JB (JB (JB (JB cb0 cb1) cb2) cb3) cb4) cb5) cb6) cb7) cb8) cb9) cb10) cb11) cb12) cb13) cb14) cb15) cb16) cb17) cb18) cb19) cb20) cb21) cb22) cb23) cb24) cb25) cb26) cb27) cb28) cb29) cb30) cb31
open Go.Ax Go.Proofs Go.ChangeShapes Go.WideShapes Go.ChangeAt Go.RowKit Go.Lib
theorem jA:Tryz.pinned.checked.prog.funcNamed Rows.networkBackUptoRow.func=some 7:=by kernel_rfl
set_option maxRecDepth 100000 in
theorem vH:Tryz.f7.isInstance Tryz.pinned.checked.prog Rows.networkBackUptoRow.origin Rows.networkBackUptoRow.targs:=fE (by kernel_rfl)
set_option maxRecDepth 100000 in
theorem yG:Tryz.f7.isWrapper Tryz.pinned.checked.prog Rows.networkBackUptoRow.wrapper Rows.networkBackUptoRow.mainSum:=by
 unfold Func.isWrapper;first|(rw[fC (by decide+kernel)];kernel_rfl)|(rw[fD (by decide+kernel)];exact⟨rfl,rfl⟩)
set_option maxRecDepth 100000 in
theorem Fg:Rows.NetworkBackUptoSaid:=
 OpenClaim.holds_of_cond 7 Tryz.f7 rfl rfl rfl rfl rfl rfl rfl ⟨rfl,rfl,rfl,rfl,rfl⟩ rfl rfl rfl rfl rfl jA Tryz.func7 PN vH yG
  (fun os started H enc _ F=>by rw[OpenClaim.pre_eq_preRow];exact RZ os started H enc F)
theorem plain (f:FuncId)(fn:Go.Func)(hf:Tryz.pinned.checked.prog.funcNamed "foliot/foliotlaw11.NetworkBack" =some f)(hfn:Tryz.pinned.checked.prog.funcs[f]? =some fn):
 true=Tryz.pinned.checked.prog.looks []∧∀(j:Nat) t,fn.params[j]? =some t→Tryz.pinned.checked.prog.wantsStandIn t=false:=by
 obtain rfl:f=7:=lE ((show Tryz.prog.funcNamed "foliot/foliotlaw11.NetworkBack" =some 7 by kernel_rfl).symm.trans hf) |>.symm
 obtain rfl:fn=Tryz.f7:=(lE (Tryz.func7.symm.trans hfn)).symm
 refine⟨by kernel_rfl,fun j t ht=> ?_⟩
 rw[Tryz.params7]at ht
 have hm:t=9∨t=42:=by simpa using Array.mem_of_getElem? ht
 rcases hm with rfl|rfl
 ·exact(show Tryz.prog.wantsStandIn 9=false by kernel_rfl)
 ·exact(show Tryz.prog.wantsStandIn 42=false by kernel_rfl)
theorem back_card:Rows.NetworkBackUptoCardSaid:=
 Claim7.holds_tied_plain_at .later [] _ _ _ _ Fg (fun _ h=>by cases h) (by kernel_rfl) (fun _ h=>by cases h) networkBackUpto_row_tie rfl ⟨rfl,rfl⟩ (by kernel_rfl) rfl plain (by kernel_rfl)
end Go.Proofs.YtcbjbgaefighcaaGreatDoor
