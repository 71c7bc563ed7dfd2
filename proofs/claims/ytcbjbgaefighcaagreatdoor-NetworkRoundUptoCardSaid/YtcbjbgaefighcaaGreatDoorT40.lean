/- Part 40 of the proof. -/
import Derived.Test.YtcbjbgaefighcaaGreatDoorT0
import Derived.Test.YtcbjbgaefighcaaGreatDoorT37
import Derived.Test.YtcbjbgaefighcaaGreatDoorT38
import Derived.Test.YtcbjbgaefighcaaGreatDoorT39
import Derived.JoinedCond
set_option linter.all false
namespace Go.Proofs.YtcbjbgaefighcaaGreatDoor
open Go Go.Ax Go.Ax.K Go.Proofs
theorem qY {m:Model}(h:VV m=0):WK m=true∧UT m=true:=by
 unfold VV at h
 cases hw:WK m with
 |false=>rw[hw]at h;simp [Gy]at h
 |true=>
  rw[hw]at h
  cases hf:UT m with
  |false=>rw[hf]at h;simp [SV]at h
  |true=>exact⟨rfl,rfl⟩
theorem F5 {m:Model}(h:VV m=0)(hs:(Xr m).length≤20000):∃N,10*(Xr m).length+11≤N∧WP N (Xr m)=(m,0,0):=by
 obtain⟨hw,hf⟩:=qY h
 obtain⟨K,hK⟩:=F1 hw
 refine⟨max K (10*(Xr m).length+11),by omega,?_⟩
 rw[WP,fD (by omega),hK _ (by omega)]
 simp only[hf,if_true]
section
variable (G:Nat→Option (List AV))
theorem n6 (hG:Gl G)(a:Model){A:Q2}(ha:LtM a):QB Tryz.prog G 6 [.agg a.cells] A (bo true) A:=by
 have h8:=fun A=>n8 G hG (A:=A)
 have ba:=fun A=>n12 G a (A:=A) ha
 have f1:=fun A=>PM G a (A:=A) ha
 have p1:=fun A=>n14 G hG a (A:=A) ha
 have s1:=fun A=>n11 G a a (A:=A) ha
 rw[Lj]at s1
 have la:a.cells.length=6:=rfl
 have ta:a.cells.take 6=a.cells:=rfl
 have oa:a.cells.all AV.one=true:=rfl
 have hr:VV a=0→(∀A,QB Tryz.prog G 9 [.str (Xr a)] A (Ir (if(Xr a).length≤20000 then(a,0,0)else(Kp,0,3))) A):=fun hf A=>by
  by_cases hs:(Xr a).length≤20000
  ·obtain⟨N,hN,hp⟩:=F5 hf hs
   have:=n9 G hG (N:=N) (A:=A) (s:=Xr a) hN
   rwa [hp,←fC (c:=(Xr a).length≤20000) (t:=(a,(0:Int),(0:Int))) (e:=(Kp,0,3)) hs]at this
  ·have:=n9 G hG (N:=10*(Xr a).length+11) (A:=A) (s:=Xr a) (fG _)
   rwa [WP,fC (by omega),←fD (c:=(Xr a).length≤20000) (t:=(a,(0:Int),(0:Int))) (e:=(Kp,0,3)) hs]at this
 refine Q4 l6 (fE rfl) ?_
 unfold C6
 simp only[la,ta,oa,Q1,seval]
 intro p hp
 have hO:=(QU.refl A).set hp (o:=some (.cells a.cells)) (by simp)
 have hp:(A.upd p (some (.cells a.cells))) p=some (.cells a.cells):=Q0 ..
 generalize A.upd p (some (.cells a.cells))=B at*
 refine Q3 (h8 _) ?_
 simp only[hp,la,ta,Q1,seval]
 refine Qg (ba _) ?_
 rintro o B ⟨⟨t,rfl⟩,rfl⟩
 cases t with
 |true=>
  simp only[Q1,seval]
  exact Qc rfl hO
 |false=>
 simp only[hp,la,ta,Q1,seval]
 refine Q3 (f1 _) ?_
 simp only[Q1,seval]
 refine⟨fun hf=> ?_,fun hf=>Qc rfl hO⟩
 rw[fC hf,hf]at p1
 simp only[hp,la,ta,Q1,seval]
 refine Q3 (p1 _) ?_
 simp only[Q1,seval]
 refine Q3 (hr hf _) ?_
 have oq:Kp.cells.length=6:=rfl
 have on:Kp.cells.all AV.one=true:=rfl
 have tn:Kp.cells.take 6=Kp.cells:=rfl
 by_cases hs:(Xr a).length≤20000
 ·rw[fC hs]
  unfold Ir
  simp only[la,ta,oa,Q1,seval]
  intro q hq
  have nq:=Q6 hp hq
  have hO:=hO.set (hO.gone hq) (o:=some (.cells a.cells)) (by simp)
  have hp:=(Q5 (o:=some (.cells a.cells)) nq).trans hp
  have hq:(B.upd q (some (.cells a.cells))) q=some (.cells a.cells):=Q0 ..
  generalize B.upd q (some (.cells a.cells))=B' at*
  refine⟨fun h=>absurd h (by omega),fun _=> ?_⟩
  refine Q3 (p1 _) ?_
  simp only[hp,hq,la,ta,Q1,seval]
  refine Q3 (s1 _) ?_
  simp only[Q1,seval]
  exact Qc rfl hO
 ·rw[fD hs]
  unfold Ir
  simp only[oq,on,tn,Q1,seval]
  intro q hq
  have hO:=hO.set (hO.gone hq) (o:=some (.cells Kp.cells)) (by simp)
  exact⟨fun _=>Qc rfl hO,fun h=>absurd h (by omega)⟩
end
end Go.Proofs.YtcbjbgaefighcaaGreatDoor
namespace Go.Proofs.YtcbjbgaefighcaaGreatDoor
open Go Go.Ax Go.Proofs Go.ChangeShapes Go.WideShapes Go.ChangeAt Go.RowKit Go.Lib
set_option maxRecDepth 100000 in
theorem LX (H:Type)(enc:TypeId×Value→H)(W:World)(base:Nat)(args:Array Value)(ds gs:List (DataW H))(before:List MemPlace)
 (hval:∀(j:Nat) t v,Tryz.f6.params[j]? =some t→args[j]? =some v→Value.okWide Tryz.prog W .any base t v)
 (hW:DataW.Whole enc Tryz.prog Tryz.f6.params.toList Rows.networkRoundSpec.vars false W args.toList ds gs before)(hb:Rows.uptoBulkAll (ds++gs)≤1048576)(hL:laidMetH Tryz.prog T0 W):
 Calls Tryz.prog 6 args W fun e W'=>∃v,e=.returned v∧Rows.networkRoundSpec.post enc Tryz.prog Tryz.f6 false true false false W args v W':=by
 have hW':=hW
 obtain⟨p,q,hA0,hV,rfl,_,_⟩:=hW
 have hA:DataW.TrodAll enc Tryz.prog W 0 (fun _=>true) true Tryz.f6.params.toList args.toList ds p:=hA0
 rw[Tryz.params6]at hA hval
 obtain⟨v0,vs0,d0,ds0,p0,q0,hargs,rfl,rfl,h0,r0⟩:=trodAll_cons hA
 obtain⟨rfl,rfl,rfl⟩:=trodAll_nil r0
 obtain rfl:args=#[v0]:=by cases args;simp_all
 obtain⟨rfl,rfl⟩:=trodVars_none hV
 obtain⟨a,ha,wa⟩:=FD (hval 0 29 v0 rfl rfl) h0
 simp only[cF,cI,Rows.uptoBulkAll]at hb
 obtain⟨la,_⟩:=modB a (by omega)
 obtain⟨G,hG,hr⟩:=GR hL
 have hc:=(n6 G hG a (A:=fun _=>none) la).2 (κW W) W hr #[v0] (by simp only[List.toList_toArray,Qi];exact⟨_,_,rfl,ha,rfl⟩)
 refine hc.mono fun e W' ⟨κ',A',o,_,hs,ho,hk⟩=> ?_
 obtain⟨rfl,rfl⟩:=hk
 have he:e=.returned (.bool true):=by
  simp only[OE]at ho
  obtain⟨u,rfl,hu⟩:=ho
  rw[JY hu]
 subst he
 have same:=Np hs
 have hlt:=hW'.lt
 refine⟨_,rfl,NJ (f:=Tryz.f6) (s:=Rows.networkRoundSpec) rfl rfl ⟨rfl,rfl,rfl⟩ same hs.os hs.output hW' fun sp hsp=> ?_⟩
 rw[Tryz.params6,show(p0++[]++[]:List MemPlace)=p0++[]from cN _]
 exact trodAll_cons_mk (zM same h0 (fun x hx=>hlt x (by simp [hx])) fun x hx=>hsp x (by simp [hx])) trodAll_mk0
theorem AN (os:Os){H:Type}(enc:TypeId×Value→H):∃places,DataW.whole enc Tryz.prog ((OP os).forCall (fun _ _=>0) ⟨#[],#[SU],[]⟩).memory Tryz.f6.params.toList Rows.networkRoundSpec.vars false #[SU].toList 8=some ([jD],[],places):=
 ⟨[],by kernel_rfl⟩
set_option maxRecDepth 100000 in
theorem R9 (os:Os)(started:os.Started)(H:Type)(enc:TypeId×Value→H)(F:Stop.Interp):
 ReturnsInHanded {} Tryz.checked os 6 .any ((Rows.OpenSpec.upto Rows.networkRoundSpec).preRow enc Tryz.prog Tryz.f6 Rows.networkRoundUptoRow.domain false Rows.networkRoundUptoRow.laid) (((Rows.OpenSpec.upto Rows.networkRoundSpec).at F).post enc Tryz.prog Tryz.f6 false true false false):=by
 obtain⟨places,hx⟩:=AN os enc
 refine returnsInHanded_of_row (C:=Tryz.checked) (s:=Rows.OpenSpec.upto Rows.networkRoundSpec) own started (by kernel_rfl) Tryz.func6
  (witness_row_atRef (enc:=enc) (C:=Tryz.checked) false (OP os) #[SU] rfl (by kernel_rfl) (by kernel_rfl) (by kernel_rfl)
   (OpenSpec.preRow_of_cond 8 hx (by kernel_rfl) (fun k hk=>by cases hk;kernel_rfl) (by kernel_rfl) (FF os _))) ?_
 intro W base args ds gs before hval hW _ hcond _ hL _ _
 exact LX H enc W base args ds gs before hval hW (fE (hcond _ rfl)) hL
end Go.Proofs.YtcbjbgaefighcaaGreatDoor
namespace Go.Proofs.YtcbjbgaefighcaaGreatDoor
open Go
theorem Jy {a b:Bool}(h:a=true)(k:b=true):(a&&b)=true:=by rw[h,k];rfl
theorem cr0:(Rows.networkRoundUptoRow.wf (OpenSpec.ofChange (Rows.OpenSpec.upto Rows.networkRoundSpec).bare))=true:=by kernel_rfl
theorem cr1:(laidOutB Tryz.pinned.checked.prog)=true:=by kernel_rfl
theorem cr2:(mapsRowed Tryz.pinned.checked.prog)=true:=by kernel_rfl
theorem cr3:(Tryz.f6.params.all (Tryz.pinned.checked.prog.readableRec ·))=true:=by kernel_rfl
theorem cr4:(namedTie Tryz.pinned.checked.prog Rows.networkRoundUptoRow.named (Rows.OpenSpec.upto Rows.networkRoundSpec).bare.vars)=true:=by kernel_rfl
theorem cr5:((Rows.networkRoundUptoRow.stops==[]))=true:=by kernel_rfl
theorem cr6:((Tryz.pinned.checked.prog.stops==[]))=true:=by kernel_rfl
theorem cr7:((Rows.networkRoundUptoRow.knobs==[]))=true:=by kernel_rfl
theorem cr8:((Tryz.pinned.checked.prog.stopKnobs==[]))=true:=by kernel_rfl
theorem cr9:((Rows.networkRoundUptoRow.inPlace==Tryz.pinned.checked.prog.inPlace 6))=true:=by kernel_rfl
theorem cr10:((Rows.networkRoundUptoRow.unfollowed==Tryz.pinned.checked.prog.unfollowed 6))=true:=by kernel_rfl
theorem cr11:((Rows.networkRoundUptoRow.recurses==Tryz.pinned.checked.prog.recurses 6))=true:=by kernel_rfl
theorem cr12:((Rows.networkRoundUptoRow.named==Tryz.pinned.checked.prog.varsNamed 6))=true:=by kernel_rfl
theorem cr13:((Rows.networkRoundUptoRow.maps==(Tryz.f6.params.toList++(Rows.OpenSpec.upto Rows.networkRoundSpec).bare.plain.varTypes Tryz.pinned.checked.prog).any (Tryz.pinned.checked.prog.mapsRec ·)))=true:=by kernel_rfl
theorem cr14:((Rows.networkRoundUptoRow.ifaces==(Tryz.f6.params.toList++(Rows.OpenSpec.upto Rows.networkRoundSpec).bare.plain.varTypes Tryz.pinned.checked.prog).any (Tryz.pinned.checked.prog.ifacesRec ·)))=true:=by kernel_rfl
theorem cr15:((Rows.networkRoundUptoRow.mapsOut==Tryz.pinned.checked.prog.mapsAmong Tryz.f6.resultTypes.toList))=true:=by kernel_rfl
theorem cr16:((Rows.networkRoundUptoRow.loops==(Tryz.f6.params.toList++(Rows.OpenSpec.upto Rows.networkRoundSpec).bare.plain.varTypes Tryz.pinned.checked.prog).any (Tryz.pinned.checked.prog.loopsFrom ·)))=true:=by kernel_rfl
theorem cr17:((Rows.networkRoundUptoRow.wideKeys==(Tryz.f6.params.toList++(Rows.OpenSpec.upto Rows.networkRoundSpec).bare.plain.varTypes Tryz.pinned.checked.prog++Tryz.f6.resultTypes.toList).any (Tryz.pinned.checked.prog.wideKeysFrom ·)))=true:=by kernel_rfl
theorem cr18:((Rows.OpenSpec.upto Rows.networkRoundSpec).bare.vars.all (Tryz.pinned.checked.prog.varReadable ·))=true:=by kernel_rfl
theorem cr19:(Tryz.f6.resultTypes.all (fun t=>Tryz.pinned.checked.prog.readableRec t&&decide (t<Tryz.pinned.checked.prog.types.size)))=true:=by kernel_rfl
theorem cr20:((Rows.networkRoundUptoRow.ifacesOut==Tryz.f6.resultTypes.toList.any (Tryz.pinned.checked.prog.ifacesRec ·)))=true:=by kernel_rfl
theorem cr21:((Rows.networkRoundUptoRow.loopsOut==Tryz.f6.resultTypes.toList.any (Tryz.pinned.checked.prog.loopsFrom ·)))=true:=by kernel_rfl
theorem cr22:((Rows.networkRoundUptoRow.plainKeys==Tryz.pinned.checked.prog.plainKeys))=true:=by kernel_rfl
theorem cr23:(Rows.networkRoundUptoRow.shortTexts.isNone)=true:=by kernel_rfl
theorem cr24:(Tryz.pinned.checked.prog.stopsHeard)=true:=by kernel_rfl
theorem cr25:(Tryz.pinned.checked.prog.mayEnter)=true:=by kernel_rfl
theorem cr26:((Rows.networkRoundUptoRow.lifted==Tryz.pinned.checked.prog.liftsFinal))=true:=by kernel_rfl
theorem cr27:((Tryz.pinned.checked.prog.make==some Rows.networkRoundUptoRow.make))=true:=by kernel_rfl
theorem cr28:((Rows.networkRoundUptoRow.kinds==(if Rows.networkRoundUptoRow.domain.isEmpty then[]else Tryz.f6.params.toList.map fun t=>match Tryz.pinned.checked.prog.underlying t with|some (.int k)=>some k|_=>none)))=true:=by kernel_rfl
theorem cr29:((Rows.networkRoundUptoRow.pinned==Rows.networkRoundUptoRow.pinnedBy))=true:=by kernel_rfl
theorem cr30:((Rows.networkRoundUptoRow.veiled==(Tryz.f6.params.toList++(Rows.OpenSpec.upto Rows.networkRoundSpec).bare.plain.varTypes Tryz.pinned.checked.prog++Tryz.f6.resultTypes.toList).any (Tryz.pinned.checked.prog.veiledRec ·)))=true:=by kernel_rfl
theorem cr31:(Rows.networkRoundUptoRow.veiledFits Tryz.pinned.checked.prog Tryz.f6.params.toList (Tryz.f6.params.toList++(Rows.OpenSpec.upto Rows.networkRoundSpec).bare.plain.varTypes Tryz.pinned.checked.prog++Tryz.f6.resultTypes.toList))=true:=by kernel_rfl
set_option maxRecDepth 100000 in
theorem RF:joinedFacts Tryz.pinned.checked.prog 6 Tryz.f6 (Rows.OpenSpec.upto Rows.networkRoundSpec).bare Rows.networkRoundUptoRow=true:=by
 unfold joinedFacts
 exact Jy (Jy (Jy (Jy (Jy (Jy (Jy (Jy (Jy (Jy (Jy (Jy (Jy (Jy (Jy (Jy (Jy (Jy (Jy (Jy (Jy (Jy (Jy (Jy (Jy (Jy (Jy (Jy (Jy (Jy (Jy cr0 cr1) cr2) cr3) cr4) cr5) cr6) cr7) cr8) cr9) cr10) cr11) cr12) cr13) cr14) cr15) cr16) cr17) cr18) cr19) cr20) cr21) cr22) cr23) cr24) cr25) cr26) cr27) cr28) cr29) cr30) cr31
open Go.Ax Go.Proofs Go.ChangeShapes Go.WideShapes Go.ChangeAt Go.RowKit Go.Lib
theorem qE:Tryz.pinned.checked.prog.funcNamed Rows.networkRoundUptoRow.func=some 6:=by kernel_rfl
set_option maxRecDepth 100000 in
theorem jK:Tryz.f6.isInstance Tryz.pinned.checked.prog Rows.networkRoundUptoRow.origin Rows.networkRoundUptoRow.targs:=fE (by kernel_rfl)
set_option maxRecDepth 100000 in
theorem zK:Tryz.f6.isWrapper Tryz.pinned.checked.prog Rows.networkRoundUptoRow.wrapper Rows.networkRoundUptoRow.mainSum:=by
 unfold Func.isWrapper;first|(rw[fC (by decide+kernel)];kernel_rfl)|(rw[fD (by decide+kernel)];exact⟨rfl,rfl⟩)
set_option maxRecDepth 100000 in
theorem GV:Rows.NetworkRoundUptoSaid:=
 OpenClaim.holds_of_cond 6 Tryz.f6 rfl rfl rfl rfl rfl rfl rfl ⟨rfl,rfl,rfl,rfl,rfl⟩ rfl rfl rfl rfl rfl qE Tryz.func6 RF jK zK
  (fun os started H enc _ F=>by rw[OpenClaim.pre_eq_preRow];exact R9 os started H enc F)
theorem plain (f:FuncId)(fn:Go.Func)(hf:Tryz.pinned.checked.prog.funcNamed "foliot/foliotlaw11.NetworkRound" =some f)(hfn:Tryz.pinned.checked.prog.funcs[f]? =some fn):
 true=Tryz.pinned.checked.prog.looks []∧∀(j:Nat) t,fn.params[j]? =some t→Tryz.pinned.checked.prog.wantsStandIn t=false:=by
 obtain rfl:f=6:=lE ((show Tryz.prog.funcNamed "foliot/foliotlaw11.NetworkRound" =some 6 by kernel_rfl).symm.trans hf) |>.symm
 obtain rfl:fn=Tryz.f6:=(lE (Tryz.func6.symm.trans hfn)).symm
 refine⟨by kernel_rfl,fun j t ht=> ?_⟩
 rw[Tryz.params6]at ht
 obtain rfl:t=29:=by simpa using Array.mem_of_getElem? ht
 exact(show Tryz.prog.wantsStandIn 29=false by kernel_rfl)
theorem round_card:Rows.NetworkRoundUptoCardSaid:=
 Claim7.holds_tied_plain_at .later [] _ _ _ _ GV (fun _ h=>by cases h) (by kernel_rfl) (fun _ h=>by cases h) networkRoundUpto_row_tie rfl ⟨rfl,rfl⟩ (by kernel_rfl) rfl plain (by kernel_rfl)
end Go.Proofs.YtcbjbgaefighcaaGreatDoor
