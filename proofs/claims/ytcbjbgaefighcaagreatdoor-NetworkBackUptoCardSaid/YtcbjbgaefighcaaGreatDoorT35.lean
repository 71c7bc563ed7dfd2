/- Part 35 of the proof. -/
import Derived.Test.YtcbjbgaefighcaaGreatDoorT0
import Derived.Test.YtcbjbgaefighcaaGreatDoorT13
import Derived.Test.YtcbjbgaefighcaaGreatDoorT26
import Derived.Test.YtcbjbgaefighcaaGreatDoorT34
import Derived.Lib.LaidTab
import Derived.RowKit3
import Derived.WideKeyArgs
import Derived.ReadAgain
import Derived.Carry
import Derived.WalkKit
import Derived.ProofKit
import Derived.Deep.DeepHandedRow
import Derived.Test.YtcbjbgaefighcaaGreatDoorCards
import Derived.Test.YtcbjbgaefighcaaGreatDoorTie
import Derived.Deep.DeepWitnessRowRef
import Derived.Lib.LaidIn
set_option linter.all false
namespace Go.Proofs.YtcbjbgaefighcaaGreatDoor
open Go Go.Ax Go.Proofs
theorem HC {P:Program}{W:World}{n:String}{cs:Array Value}{g:Nat}(hg:P.globalNamed n=some g)(h:W.var? P n=some cs):∃el fr,W.heap[g]? =some (.cells cs el fr):=by
 unfold World.var? at h
 rw[hg]at h
 simp only[Option.bind_some]at h
 split at h
 ·rename_i c el fr hc
  simp only[cA]at h;subst h
  exact⟨el,fr,hc⟩
 ·cases h
theorem Ht {H:Type}{enc:TypeId×Value→H}{P:Program}{w:World}{base:Nat}{sp:Nat→Bool}{held:Bool}{fuel:Nat}{t:TypeId}{ms:Array (String×TypeId)}{cs:List Value}{name:String}{d:DataW H}{p:List MemPlace}
 (ht:P.underlying t=some (.interface ms))(h:DataW.trod enc P w base sp held fuel t cs=some (.iface name d,p)):∃u v,cs=[.iface u v]:=by
 cases fuel with
 |zero=>simp [DataW.trod]at h
 |succ fuel=>
  unfold DataW.trod at h
  rw[ht]at h
  split at h <;> first|exact⟨_,_,rfl⟩|simp_all
theorem g1:Tryz.prog.globalNamed "internal/strconv.uint64pow10" =some 1:=by kernel_rfl
theorem g4:Tryz.prog.globalNamed "strconv.ErrSyntax" =some 4:=by kernel_rfl
theorem g5:Tryz.prog.globalNamed "strconv.ErrRange" =some 5:=by kernel_rfl
theorem t1:(Tryz.prog.globals[1]?).map (·.type)=some 261:=by kernel_rfl
theorem t4:(Tryz.prog.globals[4]?).map (·.type)=some 104:=by kernel_rfl
theorem t5:(Tryz.prog.globals[5]?).map (·.type)=some 104:=by kernel_rfl
theorem c261:Tryz.prog.cellsOf 261=20:=by kernel_rfl
theorem c235:Tryz.prog.cellsOf 235=1:=by kernel_rfl
abbrev T8:List (String×DataW Unit):=[("math/bits.deBruijn32tab",Rows.laid_math_bits_deBruijn32tab),("math/bits.deBruijn64tab",Rows.laid_math_bits_deBruijn64tab),("internal/strconv.uint64pow10",Rows.laid_internal_strconv_uint64pow10),("strconv.ErrRange",Rows.laid_strconv_ErrRange),("strconv.ErrSyntax",Rows.laid_strconv_ErrSyntax)]
theorem PD {W:World}(h:laidMetH Tryz.prog T8 W):
 (∃el fr,W.heap[1]? =some (.cells (Lib.pow10Tab.map fun z=>Value.int .u64 z).toArray el fr))∧(∃u v el fr,W.heap[4]? =some (.cells #[.iface u v] el fr))∧(∃u v el fr,W.heap[5]? =some (.cells #[.iface u v] el fr)):=by
 obtain⟨ps,⟨_,_,_,_,_,_,_,_,_,_,⟨_,_,_,_,_,_,_,_,_,_,⟨ga,ta,ca,fa,pa,qa,hga,hta,hva,hda,⟨gb,tb,cb,fb,pb,qb,hgb,htb,hvb,hdb,⟨gc,tc,cc,fc,pc,qc,hgc,htc,hvc,hdc,_,_⟩,_⟩,_⟩,_⟩,_⟩,_⟩:=h
 obtain rfl:=lE (g1.symm.trans hga)
 obtain rfl:=lE (g5.symm.trans hgb)
 obtain rfl:=lE (g4.symm.trans hgc)
 obtain rfl:=lE (t1.symm.trans hta)
 obtain rfl:=lE (t5.symm.trans htb)
 obtain rfl:=lE (t4.symm.trans htc)
 refine⟨?_,?_,?_⟩
 ·obtain⟨el,fr,hh⟩:=HC hga hva
  have:ca.toList=Lib.pow10Tab.map fun z=>Value.int .u64 z:=Lib.cells_of_tab (zs:=Lib.pow10Tab) Tryz.underlying261 Tryz.underlying235 c235 c261 hda
  exact⟨el,fr,by rw[hh,←this]⟩
 ·obtain⟨el,fr,hh⟩:=HC hgc hvc
  obtain⟨u,v,hc⟩:=Ht Tryz.underlying104 hdc
  exact⟨u,v,el,fr,by rw[hh,←hc]⟩
 ·obtain⟨el,fr,hh⟩:=HC hgb hvb
  obtain⟨u,v,hc⟩:=Ht Tryz.underlying104 hdb
  exact⟨u,v,el,fr,by rw[hh,←hc]⟩
theorem Fa {W:World}(h:laidMetH Tryz.prog T8 W):∃G,Gl G∧Rel G (κW W) (fun _=>none) W:=by
 obtain⟨⟨el1,fr1,h1⟩,⟨u4,v4,el4,fr4,h4⟩,u5,v5,el5,fr5,h5⟩:=PD h
 refine⟨fun g=>if g=1 then some (Lib.pow10Tab.map fun z=>.raw (.int .u64 z))else if g=4 then some [.iface u4 (.raw v4)]else if g=5 then some [.iface u5 (.raw v5)]else none,⟨⟨u4,.raw v4,rfl⟩,⟨u5,.raw v5,rfl⟩,rfl⟩,?_⟩
 have hT:∀b,¬U0 (κW W) (fun _=>none) W b:=fun b ⟨id,o,x,e1,_⟩=>by cases e1
 have ifc:∀{g:Nat} {u v el fr},W.heap[g]? =some (.cells #[.iface u v] el fr)→Zx (κW W) g [.iface u (.raw v)] 0:=fun{g u v el fr} hh=>by
  simp only[Zx]
  exact⟨⟨.iface u v,by simp [κW,World.cell?,hh],by simp [Qc]⟩,trivial⟩
 have pow:Zx (κW W) 1 (Lib.pow10Tab.map fun z=>.raw (.int .u64 z)) 0:=by
  refine Sv (us:=Lib.pow10Tab.map fun z=>Value.int .u64 z) ?_ fun j hj=> ?_
  ·generalize Lib.pow10Tab=l
   induction l with
   |nil=>simp [Qi]
   |cons z l ih=>simp only[cJ,Qi];exact⟨_,_,rfl,by simp [Qc],ih⟩
  ·simp [World.cell?,h1]
 exact{
  imm:=fun b i v hv=>hv
  obj:=fun id o ho=>by cases ho
  inj:=fun id id' o o' x x' k ho=>by cases ho
  fin:=⟨0,fun _ _=>rfl⟩
  glob:=fun g cs hg=>by
   split at hg
   ·rename_i e;subst e;cases hg;exact pow
   ·split at hg
    ·rename_i e;subst e;cases hg;exact ifc h4
    ·split at hg
     ·rename_i e;subst e;cases hg;exact ifc h5
     ·cases hg
  gsz:=fun g cs hg=>by
   refine⟨?_,hT g⟩
   split at hg
   ·rename_i e;subst e;cases hg;exact⟨_,_,_,h1,by simp⟩
   ·split at hg
    ·rename_i e;subst e;cases hg;exact⟨_,_,_,h4,rfl⟩
    ·split at hg
     ·rename_i e;subst e;cases hg;exact⟨_,_,_,h5,rfl⟩
     ·cases hg
  typ:=fun id cs b e E ho=>by cases ho
  tyq:=fun id b e E ho=>by cases ho}
open Go.ChangeShapes Go.WideShapes Go.ChangeAt Go.RowKit
theorem SD:laidOutB Tryz.prog=true:=by kernel_rfl
theorem zK:Tryz.prog.readableRec 29=true:=by kernel_rfl
theorem yK:29<Tryz.prog.types.size:=fE (by kernel_rfl)
theorem NG {κ κ':Kn}{A':Q3}{W W':World}(h:Step κ (fun _=>none) W κ' A' W'):∀b,b<W.heap.size→W'.heap[b]? =W.heap[b]? :=fun b hb=>h.keep b hb fun⟨id,o,x,e1,_⟩=>by cases e1
theorem stays {H:Type}{enc:TypeId×Value→H}{W W':World}{v:Value}{d:DataW H}{ps:List MemPlace}{sp:Nat→Bool}(hs:∀b,b<W.heap.size→W'.heap[b]? =W.heap[b]?)
 (h:DataW.Trod enc Tryz.prog W 0 (fun _=>true) true 29 v d ps)(hlt:∀x∈ps,x.block<W.heap.size)(hsp:∀x∈ps,sp x.block=true):DataW.Trod enc Tryz.prog W' 0 sp true 29 v d ps:=
 WideElems.Trod_stays SD zK yK h (fun x hx=>by
  have:=hs x.block (hlt x hx)
  cases x with
  |cell b off=>simp only[MemPlace.block]at this;simp only[World.sameAt,World.cell?,this]
  |map b=>exact this) hsp
theorem Px {W W':World}{may:MemPlace→Prop}(hs:∀b,b<W.heap.size→W'.heap[b]? =W.heap[b]?)(ho:W'.os=W.os)(hp:W'.output=W.output):W.keptBut W' may:=by
 refine⟨ho,hp,fun i hi=> ?_⟩
 rw[hs i hi]
 cases W.heap[i]? with
 |none=>rfl
 |some o=>
  cases o with
  |cells c t fr=>exact⟨rfl,rfl,rfl,fun _ _=>rfl⟩
  |map es clock=>exact .inr ⟨rfl,rfl⟩
  |_=>rfl
theorem Gw {W W':World}(hs:∀b,b<W.heap.size→W'.heap[b]? =W.heap[b]?){a:Addr}(ha:a.block<W.heap.size):W'.frozen? a=W.frozen? a:=by
 simp only[World.frozen?,hs _ ha]
section
variable {H:Type}{enc:TypeId×Value→H}
set_option maxRecDepth 100000 in
theorem G1 {f:Go.Func}{s:ChangeSpec}{W W':World}{args:Array Value}{ds:List (DataW H)}{before:List MemPlace}(hvars:s.vars=[])(hrt:f.resultTypes=#[4])(hfn:(s.fn H (ds++[])).results=[.lit (.bool true)]∧(s.fn H (ds++[])).args=ds∧(s.fn H (ds++[])).vars=[])
 (hs:∀b,b<W.heap.size→W'.heap[b]? =W.heap[b]?)(ho:W'.os=W.os)(hp:W'.output=W.output)
 (hW:DataW.Whole enc Tryz.prog f.params.toList s.vars false W args.toList ds [] before)
 (hargs:∀sp:Nat→Bool,(∀p∈before,sp p.block=true)→DataW.TrodAll enc Tryz.prog W' 0 sp true f.params.toList args.toList ds before):
 s.post enc Tryz.prog f false true false false W args (.bool true) W':=by
 have hlt:=hW.lt
 have hold:∀p∈before,(fun b=>decide (b<W.heap.size)) p.block=true:=fun p hp=>by simpa using hlt p hp
 have hv:∀sp:Nat→Bool,DataW.TrodVars enc Tryz.prog W' sp s.vars (s.fn H (ds++[])).vars []:=fun sp=>by rw[hvars,hfn.2.2];rfl
 have hr:∀(b:Nat) (sp:Nat→Bool) (hd:Bool),DataW.TrodAll enc Tryz.prog W' b sp hd f.resultTypes.toList ((Value.bool true).resultList f.resultTypes.size) (s.fn H (ds++[])).results []:=fun b sp hd=>by
  rw[hfn.1,hrt]
  exact trodAll_cons_mk (shut_bool Tryz.underlying4 _) trodAll_mk0
 have ha:∀sp:Nat→Bool,(∀p∈before,sp p.block=true)→DataW.TrodAll enc Tryz.prog W' 0 sp true f.params.toList args.toList (s.fn H (ds++[])).args before:=fun sp h=>by rw[hfn.2.1];exact hargs sp h
 have hok1:Value.okWide Tryz.prog W' .any 0 4 (.bool true):=okWide_bool_mk Tryz.underlying4 true
 have hok:=ok_one (P:=Tryz.prog) (W':=W') (f:=f) (v:=.bool true) (t:=4) hrt rfl hok1
 have hW0:=hW
 obtain⟨_,_,_,_,_,hz,_⟩:=hW0
 refine⟨ds,[],before,[],before,[],hW,hr _ _ _,ha _ hold,hv _,Px hs ho hp,fun _=>⟨hok,(s.fn H (ds++[])).results++(s.fn H (ds++[])).args,(s.fn H (ds++[])).vars,([]++before)++[],⟨[]++before,[],trodAll_append (ha _ (fun _ _=>rfl)) (hr _ _ _),hv _,rfl,fun b off hb=> ?_,fun h=>by cases h⟩,fun p hp _=>by simpa using hp⟩⟩
 have hb:MemPlace.cell b off∈before:=by simpa using hb
 have:=hlt _ hb
 rw[Gw hs this]
 exact hz b off hb
end
open Go.Lib
theorem repL_two {κ:Kn}{a b:AV}{u v:Value}(h:Qc κ a u)(k:Qc κ b v):Qi κ [a,b] [u,v]:=by
 simp only[Qi];exact⟨_,_,rfl,h,_,_,rfl,k,rfl⟩
theorem kK {H:Type}{enc:TypeId×Value→H}{W:World}{base:Nat}{v:Value}{d:DataW H}{p:List MemPlace}(hv:Value.okWide Tryz.prog W .any base 29 v)(h:DataW.Trod enc Tryz.prog W 0 (fun _=>true) true 29 v d p):
 ∃m:Model,Qc (κW W) (.agg m.cells) v∧wM m≤Rows.uptoBulk d:=by
 obtain⟨n,h⟩:=h
 obtain⟨m,h1,h2⟩:=rd_M n n (fG _) _ _ h
 refine⟨m,?_,h2⟩
 simp only[Value.okWide,Tryz.underlying29]at hv
 obtain⟨cs,rfl,_⟩:=hv
 simp only[Qc]
 exact⟨cs,rfl,h1⟩
theorem own:ownKnob Tryz.prog.godebug=none:=by kernel_rfl
def HF:DataW Unit→Array Value
 | .agg l=>(l.map fun| .lit (.int k n)=>Value.int k n|_=>.nilFunc).toArray
 |_=>#[]
def SJ:DataW Unit→Value
 | .iface _ (.ptr (.agg [.lit (.string s)]))=>.string ⟨s.toArray⟩
 |_=>.nilFunc
noncomputable def OM (os:Os):World:=
 let N:=(World.settled Tryz.prog os).heap.size
 let w0:=World.holding Tryz.prog os ⟨#[.cells #[SJ Rows.laid_strconv_ErrSyntax] 300,.cells #[SJ Rows.laid_strconv_ErrRange] 300],#[],[]⟩
 let put (h:Array Obj) (g:Nat) (cs:Array Value):Array Obj:=h.modify g fun
  | .cells _ t frozen=>.cells cs t frozen
  |o=>o
 let h0:=put (put w0.heap 4 #[.iface 298 (.pointer (some ⟨N,0,none⟩))]) 5 #[.iface 298 (.pointer (some ⟨N+1,0,none⟩))]
 let h1:=put (put (put h0 1 (HF Rows.laid_internal_strconv_uint64pow10)) 2 (HF Rows.laid_math_bits_deBruijn32tab)) 3 (HF Rows.laid_math_bits_deBruijn64tab)
 {w0 with heap:=h1}
def noArg:Value:=.agg #[.string ⟨#[]⟩,.slice none 0 0,.slice none 0 0,.slice none 0 0,.slice none 0 0,.slice none 0 0]
def noDat {H:Type}:DataW H:=.agg [.lit (.string []),.nil,.nil,.nil,.nil,.nil]
theorem E1 (os:Os)(args:Array Value):laidMet Tryz.prog T8 ((OM os).forCall (fun _ _=>0) ⟨#[],args,[]⟩).memory:=
 laidMet_of_run' 8 (by kernel_rfl) (by kernel_rfl)
end Go.Proofs.YtcbjbgaefighcaaGreatDoor
namespace Go.Proofs.YtcbjbgaefighcaaGreatDoor
open Go Go.Ax Go.Proofs
def Ur (r:Bs):Prop:=∀c t,r=c::t→JI c=false
theorem Qq {c:UInt8}{t:Bs}(h:JI c=false):Ur (c::t):=fun c' t' e=>by cases e;exact h
theorem vG {c:UInt8}(h:JI c=false):ZX c=false:=by
 unfold JI at h
 simp only[Bool.or_eq_false_iff]at h
 exact h.1.2
theorem isL_C {c:UInt8}(h:Y1 c=true):JI c=true:=by simp [JI,h]
theorem K9 {f:UInt8→Bool}:∀{w r:Bs},w.all f=true→(∀c t,r=c::t→f c=false)→(w++r).takeWhile f=w
 |[],[],_,_=>rfl
 |[],c::t,_,h=>by simp [List.takeWhile_cons,h c t rfl]
 |c::w,r,hw,h=>by
  simp only[dU,cD]at hw
  simp only[cF,List.takeWhile_cons,hw.1,if_true,K9 hw.2 h]
def ZA (w r:Bs):Prop:=Z4 (w++r)=w.length
theorem ZA.cur {w r:Bs}(h:ZA w r):cur (w++r)=w:=by unfold YtcbjbgaefighcaaGreatDoor.cur;rw[h];simp
theorem ZA.adv {w r:Bs}(h:ZA w r):adv (w++r)=skip r:=by unfold YtcbjbgaefighcaaGreatDoor.adv;rw[h];simp
theorem TE {w r:Bs}{c:UInt8}{t:Bs}(e:w=c::t)(h1:Y1 c=true)(h2:w.all JI=true)(hr:Ur r):ZA w r:=by
 unfold ZA
 have:=K9 (f:=JI) h2 hr
 subst e
 simp only[Z4,cF,h1,if_true]
 rw[cF]at this
 rw[this]
theorem EU {w r:Bs}{c:UInt8}{t:Bs}(e:w=c::t)(h1:Y1 c=false)(h2:w.all ZX=true)(hr:Ur r):ZA w r:=by
 unfold ZA
 have:=K9 (f:=ZX) h2 (r:=r) fun c t e=>vG (hr c t e)
 subst e
 have h3:ZX c=true:=by simp only[dU,cD]at h2;exact h2.1
 simp only[Z4,cF,h1,h3,if_true,cB,if_false]
 rw[cF]at this
 rw[this]
def LF (c:UInt8):Bool:= !Y1 c&& !ZX c&& !(c==124||c==38||c==60||c==62||c==61||c==33||c==45||c==46)
theorem ZO {c:UInt8}{r:Bs}(h:LF c=true):ZA [c] r:=by
 unfold LF at h
 simp only[cD,Bool.not_eq_true',Bool.or_eq_false_iff,beq_eq_false_iff_ne,ne_eq]at h
 obtain⟨⟨h1,h2⟩,⟨⟨⟨⟨⟨⟨a1,a2⟩,a3⟩,a4⟩,a5⟩,a6⟩,a7⟩,a8⟩:=h
 unfold ZA
 simp only[Z4,cF,cI,h1,h2,cB,if_false]
 rw[fD];· rfl
 intro hm
 cases r with
 |nil=>simp [Yx]at hm
 |cons d r=>simp [Yx,a1,a2,a3,a4,a5,a6,a7,a8]at hm
theorem WB {c d:UInt8}{r:Bs}(h1:Y1 c=false)(h2:ZX c=false)(h:[c,d]∉Yx):ZA [c] (d::r):=by
 unfold ZA
 simp only[Z4,cF,cI,h1,h2,cB,if_false]
 rw[fD];· rfl
 simpa using h
theorem KA {c d:UInt8}{r:Bs}(h1:Y1 c=false)(h2:ZX c=false)(h:[c,d]∈Yx):ZA [c,d] r:=by
 unfold ZA
 simp only[Z4,cF,cI,h1,h2,cB,if_false]
 rw[fC];· rfl
 simpa using h
theorem Tt {c:UInt8}{r:Bs}(h:W7 c=true):skip (c::r)=skip r:=by
 have hc:(c==47)=false:=by
  cases h':(c==47)with
  |false=>rfl
  |true=>rw[beq_iff_eq.1 h']at h;revert h;decide
 unfold skip
 simp only[QG,hc,dE,cB,if_false,h,if_true,Nat.add_comm 1,List.drop_succ_cons]
theorem Jx {c:UInt8}{r:Bs}(h:W7 c=false)(h2:c≠47):skip (c::r)=c::r:=by
 unfold skip
 simp [QG,h,h2]
@[simp] theorem QR {r:Bs}:skip (32::r)=skip r:=Tt rfl
@[simp] theorem Vw {r:Bs}:skip (10::r)=skip r:=Tt rfl
@[simp] theorem zF {r:Bs}:skip (9::r)=skip r:=Tt rfl
@[simp] theorem Fe:skip []=[]:=rfl
def Zf (c:UInt8):Bool:=Y1 c||ZX c||c==40||c==33||c==45
def Ys (t:Bs):Prop:=∃c r,t=c::r∧Zf c=true
theorem Ys.app {t r:Bs}(h:Ys t):Ys (t++r):=by obtain⟨c,s,rfl,h⟩:=h;exact⟨c,s++r,rfl,h⟩
theorem Ys.ne {t:Bs}(h:Ys t):t≠[]:=by obtain⟨c,s,rfl,h⟩:=h;simp
theorem I0 {c:UInt8}(h:Zf c=true):W7 c=false∧c≠47∧c≠62∧c≠61:=by
 have key:∀d:UInt8,Zf d=false→c≠d:=fun d hd e=>by rw[e,hd]at h;cases h
 refine⟨?_,key 47 rfl,key 62 rfl,key 61 rfl⟩
 unfold W7
 simp [key 32 rfl,key 9 rfl,key 13 rfl,key 10 rfl]
theorem Ys.skip {t:Bs}(h:Ys t):skip t=t:=by
 obtain⟨c,s,rfl,h⟩:=h
 exact Jx (I0 h).1 (I0 h).2.1
theorem Ys.skip_app {t r:Bs}(h:Ys t):YtcbjbgaefighcaaGreatDoor.skip (t++r)=t++r:=h.app.skip
theorem Ey {c:UInt8}{t:Bs}(h:Y1 c=true):Ys (c::t):=⟨c,t,rfl,by simp [Zf,h]⟩
theorem yI {c:UInt8}{t:Bs}(h:ZX c=true):Ys (c::t):=⟨c,t,rfl,by simp [Zf,h]⟩
theorem UU {w:Bs}(h:Qe w=true):∃c t,w=c::t∧Y1 c=true∧w.all JI=true∧w∉WG:=by
 cases w with
 |nil=>cases h
 |cons c t=>
  simp only[Qe,cD,Bool.not_eq_true',lF]at h
  exact⟨c,t,rfl,h.1.1.2,h.2,h.1.2⟩
theorem ZG {w:Bs}(h:Qe w=true):Ys w:=by
 obtain⟨c,t,rfl,h1,_,_⟩:=UU h
 exact Ey h1
theorem HE {w r:Bs}(h:Qe w=true)(hr:Ur r):ZA w r:=by
 obtain⟨c,t,e,h1,h2,_⟩:=UU h
 exact TE e h1 h2 hr
theorem JG {w r:Bs}(h:Qe w=true)(hr:Ur r):Za (w++r)=.ok w (skip r):=by
 have ht:=HE h hr
 simp only[Za,ht.cur,ht.adv,h,if_true]
theorem VW {w r:Bs}(h:ZA w r):Ql w (w++r)=.ok () (skip r):=by
 simp only[Ql,h.cur,h.adv,if_true]
theorem Ko {w v:Bs}(h:Qe w=true)(hv:v∈WG):w≠v:=fun e=>by
 obtain⟨c,t,_,_,_,h3⟩:=UU h
 exact h3 (e▸hv)
theorem He {n:Nat}(h:n<10):(UInt8.ofNat (48+n)).toNat=48+n:=by
 rw[UInt8.toNat_ofNat'];omega
theorem SF {n:Nat}(h:n<10):ZX (UInt8.ofNat (48+n))=true:=by
 unfold ZX
 rw[He h]
 simp;omega
theorem Sy {c:UInt8}(h:ZX c=true):Y1 c=false:=by
 unfold ZX at h
 unfold Y1
 simp only[dZ,lF]at h⊢
 omega
theorem SN:∀(u:Nat),(Lib.decDigits u).all ZX=true:=fun u=>by
 induction u using Nat.strongRecOn with
 |_ u ih=>
  rw[Lib.decDigits]
  split
  ·rename_i h;simp only[dU,lP,SF h,fX]
  ·rename_i h
   rw[fK,ih (u / 10) (by omega)]
   simp only[dU,lP,SF (n:=u % 10) (by omega),fX]
theorem En (l:Bs)(c:UInt8):Vj (l++[c])=10*Vj l+(c.toNat - 48):=by simp [Vj]
theorem SM:∀(u:Nat),Vj (Lib.decDigits u)=u:=fun u=>by
 induction u using Nat.strongRecOn with
 |_ u ih=>
  rw[Lib.decDigits]
  split
  ·rename_i h
   simp only[Vj,List.foldl_cons,List.foldl_nil,He h]
   omega
  ·rename_i h
   rw[En,ih (u / 10) (by omega),He (by omega)]
   omega
theorem Em:∀(u:Nat),1≤u→(Lib.decDigits u).head?≠some 48:=fun u=>by
 induction u using Nat.strongRecOn with
 |_ u ih=>
  intro hu
  rw[Lib.decDigits]
  split
  ·rename_i h
   simp only[List.head?_cons,ne_eq,cA]
   intro e
   have:=He h
   rw[e]at this
   have h48:(48:UInt8).toNat=48:=rfl
   omega
  ·rename_i h
   have hi:=ih (u / 10) (by omega) (by omega)
   rw[List.head?_append]
   cases hh:(Lib.decDigits (u / 10)).head? with
   |none=>
    rw[List.head?_eq_none_iff]at hh
    have:=SM (u / 10)
    rw[hh]at this
    simp only[Vj,List.foldl_nil]at this
    omega
   |some c=>rw[hh]at hi;simpa using hi
theorem OA (u:Nat):∃c t,Lib.decDigits u=c::t∧ZX c=true:=by
 have h:=SN u
 cases e:Lib.decDigits u with
 |nil=>
  have:=congrArg List.length e
  rw[Lib.decDigits_length,cL]at this
  have:=Lib.nDigits_pos u
  omega
 |cons c t=>
  rw[e]at h
  simp only[dU,cD]at h
  exact⟨c,t,rfl,h.1⟩
theorem Cq {u:Nat}(h:1<(Lib.decDigits u).length):1≤u:=by
 rcases Nat.eq_zero_or_pos u with rfl|h'
 ·rw[Lib.decDigits_one (by omega)]at h;simp at h
 ·exact h'
theorem LM {u:Nat}{r:Bs}(hr:Ur r):ZA (Lib.decDigits u) r:=by
 obtain⟨c,t,e,h⟩:=OA u
 exact EU e (Sy h) (SN u) hr
theorem Ik (u:Nat):Ys (Lib.decDigits u):=by
 obtain⟨c,t,e,h⟩:=OA u
 rw[e];exact yI h
theorem ON {u:Nat}{r:Bs}:JP (Lib.decDigits u++r)=true:=by
 obtain⟨c,t,e,h⟩:=OA u
 rw[e];exact h
theorem L8 {b:Bool}{u:Nat}{r:Bs}(hr:Ur r)(hu:u≤2147483648)(hb:b=true→u≠0):JW b (Lib.decDigits u++r)=.ok (if b then -(u:Int)else u) (skip r):=by
 have ht:=LM (u:=u) hr
 simp only[JW,ON,if_true,ht.cur,ht.adv,SM]
 rw[fD]
 rintro(h|⟨h1,h2⟩|⟨h1,h2⟩)
 ·omega
 ·exact Em u (Cq h1) h2
 ·exact hb h1 h2
theorem Ki (n:Int):(∃u:Nat,n=u∧Lib.itoa n=Lib.decDigits u)∨∃u:Nat,u≠0∧n= -(u:Int)∧Lib.itoa n=45::Lib.decDigits u:=by
 by_cases h:n<0
 ·refine .inr ⟨n.natAbs,by omega,by omega,?_⟩
  unfold Lib.itoa
  rw[fC h]
 ·refine .inl ⟨n.toNat,by omega,?_⟩
  unfold Lib.itoa
  rw[fD (by omega)]
theorem UA (n:Int):Ys (Lib.itoa n):=by
 rcases Ki n with⟨u,_,e⟩|⟨u,_,_,e⟩ <;> rw[e]
 ·exact Ik u
 ·exact⟨45,_,rfl,rfl⟩
theorem OF {t r:Bs}(h:Ys t):ZA [45] (t++r):=by
 obtain⟨c,s,rfl,h⟩:=h
 refine WB rfl rfl ?_
 have:=(I0 h).2.2.1
 simp [Yx,this]
theorem F3 {t r:Bs}(h:Ys t):ZA [33] (t++r):=by
 obtain⟨c,s,rfl,h⟩:=h
 refine WB rfl rfl ?_
 have:=(I0 h).2.2.2
 simp [Yx,this]
theorem WU {n:Int}{r:Bs}(hr:Ur r)(hn:ZJ n=true):JK (Lib.itoa n++r)=.ok n (skip r):=by
 simp only[ZJ,dZ]at hn
 unfold JK
 rcases Ki n with⟨u,e1,e⟩|⟨u,h0,e1,e⟩ <;> rw[e]
 ·have ht:=LM (u:=u) hr
  rw[fD,L8 hr (by omega) (fun h=>by cases h)]
  ·simp [e1]
  ·rw[ht.cur]
   obtain⟨c,t,e2,h⟩:=OA u
   rw[e2]
   intro e3
   simp only[YI,fQ]at e3
   rw[e3.1]at h
   exact absurd h (by decide)
 ·have ht:=OF (r:=r) (Ik u)
  rw[cF,←List.singleton_append,fC (show cur _=YI from ht.cur),ht.adv,(Ik u).skip_app,L8 hr (by omega) fun _=>h0]
  simp [e1]
def Jl {α:Type}(p:Nat→Res α)(R:Res α):Prop:=∃K,∀f,K≤f→p f=R
theorem Jl.const {α:Type}{R:Res α}:Jl (fun _=>R) R:=⟨0,fun _ _=>rfl⟩
theorem Jl.of {α:Type}{p:Nat→Res α}{R:Res α}(h:∀f,p f=R):Jl p R:=⟨0,fun f _=>h f⟩
theorem Jl.step {α:Type}{p q:Nat→Res α}{R:Res α}(h:Jl p R)(hq:∀f,q (f+1)=p f):Jl q R:=by
 obtain⟨K,h⟩:=h
 refine⟨K+1,fun f hf=> ?_⟩
 obtain⟨g,rfl⟩:∃g,f=g+1:=⟨f - 1,by omega⟩
 rw[hq,h g (by omega)]
theorem Jl.cg {α:Type}{p q:Nat→Res α}{R:Res α}(h:Jl p R)(hq:∀f,q f=p f):Jl q R:=by
 obtain⟨K,h⟩:=h
 exact⟨K,fun f hf=>by rw[hq,h f hf]⟩
theorem Jl.bind {α β:Type}{p:Nat→Res α}{k:Nat→α→Bs→Res β}{a:α}{v:Bs}{R:Res β}(h:Jl p (.ok a v))(h2:Jl (fun f=>k f a v) R):Jl (fun f=>(p f).bind (k f)) R:=by
 obtain⟨K,h⟩:=h
 obtain⟨L,h2⟩:=h2
 refine⟨max K L,fun f hf=> ?_⟩
 simp only[h f (by omega),Q7]
 exact h2 f (by omega)
def Kb (r:Bs):Prop:=Ur r∧cur (skip r)≠[40]
def WT (n:Nat)(r:Bs):Prop:=∀m,n≤m→JE m (cur (skip r))=none
theorem WT.mono {n m:Nat}{r:Bs}(h:WT n r)(hm:n≤m):WT m r:=fun k hk=>h k (by omega)
def Un (x:Exp)(t:Bs):Prop:=∀r,Kb r→Jl (fun f=>Zv f (t++r)) (.ok x (skip r))
def Fu (n:Nat)(x:Exp)(t:Bs):Prop:=∀r,Kb r→WT n r→Jl (fun f=>JA f n (t++r)) (.ok x (skip r))
def Lo (n:Nat)(x:Exp)(t:Bs):Prop:=∀r R,Kb r→WT (n+1) r→Jl (fun f=>ZU f n x (skip r)) R→Jl (fun f=>JA f n (t++r)) R
def Ex (x:Exp)(t:Bs):Prop:=∀r,Kb r→WT 1 r→cur (skip r)≠[63]→Jl (fun f=>Z0 f (t++r)) (.ok x (skip r))
theorem P3 {x:Exp}{t:Bs}(h:Un x t):Fu 6 x t:=fun r hr _=>(h r hr).step fun f=>by simp [JA]
theorem L3 {n:Nat}{x:Exp}{t:Bs}(hn:n≤5)(h:Fu (n+1) x t):Lo n x t:=fun r R hr hN hR=>
 Jl.step (Jl.bind (k:=fun f x u=>ZU f n x u) (h r hr hN) hR) fun f=>by simp only[JA];rw[fD (by omega)]
theorem MA {n:Nat}{x:Exp}{u:Bs}(h:JE n (cur u)=none):Jl (fun f=>ZU f n x u) (.ok x u):=Jl.step Jl.const fun f=>by simp only[ZU,h]
theorem vC {n:Nat}{x:Exp}{t:Bs}(h:Lo n x t):Fu n x t:=fun r hr hN=>h r _ hr (hN.mono (by omega)) (MA (hN n (fG _)))
theorem EB {x:Exp}{t:Bs}(h:Fu 1 x t):Ex x t:=fun r hr hN hq=>
 Jl.step (Jl.bind (k:=fun f x u1=>if cur u1=[63]then
  (Z0 f (adv u1)).bind fun a u2=>(Ql [58] u2).bind fun _ u3=>(Z0 f u3).bind fun b u4=>.ok (.mk 18 [] 0 [x,a,b]) u4
  else .ok x u1) (h r hr hN) (Jl.of fun f=>by rw[fD hq])) fun f=>by simp only[Z0]
theorem RG {t:Bs}(h:∀m,1≤m→m≤5→JE m t=none)(m:Nat):JE m t=none:=by
 rcases fH m 6 with h1|h1
 ·rcases Nat.eq_zero_or_pos m with rfl|h2
  ·rfl
  ·exact h m h2 (by omega)
 ·obtain⟨k,rfl⟩:∃k,m=k+6:=⟨m - 6,by omega⟩
  rfl
theorem TX {t:Bs}(h:([1,2,3,4,5].all fun m=>(JE m t).isNone)=true)(m:Nat):JE m t=none:=RG (fun m h1 h2=>by
 rw[cH]at h
 have:=h m (by simp;omega)
 simpa using this) m
theorem Kx {r t:Bs}(hr:Ur r)(h:cur (skip r)=t)(ht:t≠[40]):Kb r:=⟨hr,h▸ht⟩
theorem Ig {r t:Bs}{n:Nat}(h:cur (skip r)=t)(ht:([1,2,3,4,5].all fun m=>(JE m t).isNone)=true):WT n r:=fun m _=>by rw[h];exact TX ht m
theorem WF {c:UInt8}{r:Bs}(h:LF c=true)(hw:W7 c=false)(h47:c≠47):cur (skip (c::r))=[c]:=by
 rw[Jx hw h47];exact(ZO (r:=r) h).cur
theorem kO {c:UInt8}{r:Bs}(h:LF c=true):adv (c::r)=skip r:=(ZO (r:=r) h).adv
theorem par {x:Exp}{t:Bs}(hs:Ys t)(h:Ex x t):Un x (40::(t++[41])):=fun r hr=>by
 have e:40::(t++[41])++r=[40]++(t++(41::r)):=by simp
 have h40:ZA [40] (t++(41::r)):=ZO rfl
 have c41:cur (skip (41::r))=[41]:=WF rfl rfl (by decide)
 have hx:=h (41::r) (Kx (Qq rfl) c41 (by decide)) (Ig c41 rfl) (by rw[c41];decide)
 have hp:Jl (fun f=>JX f ([40]++(t++(41::r)))) (.ok x (skip r)):=by
  refine Jl.step (Jl.bind (k:=fun f x u1=>(Ql [41] u1).bind fun _ u2=>.ok x u2) hx (Jl.of fun f=> ?_)) fun f=> ?_
  ·rw[Jx rfl (by decide)]
   show(Ql [41] ([41]++r)).bind _=_
   rw[VW (ZO rfl)];rfl
  ·simp only[JX]
   rw[fD (show¬JP ([40]++(t++41::r))=true from fun h=>absurd (show ZX 40=true from h) (by decide)),fC h40.cur,h40.adv,hs.skip_app]
 rw[e]
 refine Jl.step hp fun f=> ?_
 simp only[Zv]
 rw[fD (by rw[h40.cur];decide),fD (by rw[h40.cur];decide)]
structure PK (x:Exp) (t:Bs):Prop where
 sol:Ys t
 ex:Ex x t
 fu:∀n,1≤n→n≤6→n≤Zd x.kind→Fu n x t
 lo:∀n,1≤n→n≤5→n≤Zd x.kind→(n≠3∨Zd x.kind≠3)→Lo n x t
 un:6≤Zd x.kind→Un x t
theorem Io {x:Exp}{t:Bs}:∀(k n:Nat),n+k≤6→Fu (n+k) x t→Fu n x t
 |0,_,_,h=>h
 |k+1,n,hk,h=>vC (L3 (by omega) (Io k (n+1) (by omega) (by rw[show n+1+k=n+(k+1)by omega];exact h)))
theorem L1 {x:Exp}{t:Bs}(hs:Ys t)(h:Un x t):PK x t:=
 have fu:∀n,n≤6→Fu n x t:=fun n hn=>Io (6 - n) n (by omega) (by rw[show n+(6 - n)=6 by omega];exact P3 h)
 {sol:=hs,ex:=EB (fu 1 (by omega)),fu:=fun n _ h _=>fu n h,lo:=fun n _ h _ _=>L3 h (fu (n+1) (by omega)),un:=fun _=>h}
theorem zQ {x:Exp}{t:Bs}{p:Nat}(hs:Ys t)(hp:Zd x.kind=p)(h1:1≤p)(h5:p≤5)(hf:Fu p x t)(hl:p≠3→Lo p x t):PK x t:=
 have fu:∀n,n≤p→Fu n x t:=fun n hn=>Io (p - n) n (by omega) (by rw[show n+(p - n)=p by omega];exact hf)
 {sol:=hs,ex:=EB (fu 1 h1),fu:=fun n _ _ h=>fu n (by omega),un:=fun h=>absurd h (by omega),
  lo:=fun n _ h5 hn h3=>by
   rcases fH n p with h|h
   ·exact L3 h5 (fu (n+1) (by omega))
   ·obtain rfl:n=p:=by omega
    exact hl (by omega)}
theorem zD {t:Bs}:Ys (40::t):=⟨40,t,rfl,rfl⟩
theorem zC {t:Bs}:Ys (45::t):=⟨45,t,rfl,rfl⟩
theorem zE {t:Bs}:Ys (33::t):=⟨33,t,rfl,rfl⟩
theorem PK.psol {x:Exp}{t:Bs}(h:PK x t)(l:Nat):Ys (Zr l x.kind t):=by
 unfold Zr;split
 ·exact zD
 ·exact h.sol
theorem PK.pun {x:Exp}{t:Bs}(h:PK x t){l:Nat}(hl:6≤l):Un x (Zr l x.kind t):=by
 unfold Zr;split
 ·exact par h.sol h.ex
 ·exact h.un (by omega)
theorem PK.pfu {x:Exp}{t:Bs}(h:PK x t){n:Nat}(h1:1≤n)(h6:n≤6):Fu n x (Zr n x.kind t):=by
 unfold Zr;split
 ·exact Io (6 - n) n (by omega) (by rw[show n+(6 - n)=6 by omega];exact P3 (par h.sol h.ex))
 ·exact h.fu n h1 h6 (by omega)
theorem PK.plo {x:Exp}{t:Bs}(h:PK x t){n:Nat}(h1:1≤n)(h5:n≤5)(h3:n≠3):Lo n x (Zr n x.kind t):=by
 unfold Zr;split
 ·exact L3 h5 (Io (6 - (n+1)) (n+1) (by omega) (by rw[show n+1+(6 - (n+1))=6 by omega];exact P3 (par h.sol h.ex)))
 ·exact h.lo n h1 h5 (by omega) (.inl h3)
section
variable {α:Type}{one:Nat→Bs→Res α}{tx:α→Bs}{sep sepT:Bs}{F:Bs→Prop}
theorem Ni (hs:∀q,Ys q→cur (skip (sepT++q))=sep∧adv (skip (sepT++q))=q)(hF:∀q,Ys q→F (sepT++q)){r:Bs}(hr:F r)(hend:cur (skip r)≠sep):
 ∀(l:List α),(∀a∈l,Ys (tx a))→(∀a∈l,∀r,F r→Jl (fun f=>one f (tx a++r)) (.ok a (skip r)))→∀acc,∃K,∀f,K≤f→∀g,l.length<g→J9 sep (one f) g acc (skip (Lib.joinTail sepT (l.map tx)++r))=.ok (acc++l) (skip r)
 |[],_,_,acc=>⟨0,fun f _ g hg=>by
  obtain⟨g,rfl⟩:∃k,g=k+1:=⟨g - 1,by simp at hg;omega⟩
  simp [J9,Lib.joinTail,hend]⟩
 |a::l,hl,h1,acc=>by
  have ht:Lib.joinTail sepT ((a::l).map tx)++r=sepT++(tx a++(Lib.joinTail sepT (l.map tx)++r)):=by simp [Lib.joinTail]
  have hq:Ys (tx a++(Lib.joinTail sepT (l.map tx)++r)):=(hl a (by simp)).app
  have hFr:F (Lib.joinTail sepT (l.map tx)++r):=by
   cases l with
   |nil=>simpa[Lib.joinTail]using hr
   |cons b l=>
    have e:Lib.joinTail sepT ((b::l).map tx)++r=sepT++(tx b++(Lib.joinTail sepT (l.map tx)++r)):=by simp [Lib.joinTail]
    rw[e]
    exact hF _ (hl b (by simp)).app
  obtain⟨K1,h1'⟩:=h1 a (by simp) _ hFr
  obtain⟨K2,h2⟩:=Ni hs hF hr hend l (fun a h=>hl a (by simp [h])) (fun a h=>h1 a (by simp [h])) (acc++[a])
  refine⟨max K1 K2,fun f hf g hg=> ?_⟩
  obtain⟨g,rfl⟩:∃k,g=k+1:=⟨g - 1,by simp at hg;omega⟩
  rw[ht,J9,fC (hs _ hq).1,(hs _ hq).2]
  have:=h1' f (by omega)
  simp only at this
  rw[this,Q7,h2 f (by omega) g (by simpa using hg)]
  simp
theorem Il (hs:∀q,Ys q→cur (skip (sepT++q))=sep∧adv (skip (sepT++q))=q)(hF:∀q,Ys q→F (sepT++q)){r:Bs}(hr:F r)(hend:cur (skip r)≠sep)
 {l:List α}(hne:l≠[])(hl:∀a∈l,Ys (tx a))(h1:∀a∈l,∀r,F r→Jl (fun f=>one f (tx a++r)) (.ok a (skip r))):Jl (fun f=>ZV sep (one f) f (Lib.join (l.map tx) sepT++r)) (.ok l (skip r)):=by
 cases l with
 |nil=>exact absurd rfl hne
 |cons a l=>
  rw[cJ,Lib.join_cons,cU]
  have hFr:F (Lib.joinTail sepT (l.map tx)++r):=by
   cases l with
   |nil=>simpa[Lib.joinTail]using hr
   |cons b l=>
    have e:Lib.joinTail sepT ((b::l).map tx)++r=sepT++(tx b++(Lib.joinTail sepT (l.map tx)++r)):=by simp [Lib.joinTail]
    rw[e]
    exact hF _ (hl b (by simp)).app
  obtain⟨K2,h2⟩:=Ni hs hF hr hend l (fun a h=>hl a (by simp [h])) (fun a h=>h1 a (by simp [h])) [a]
  refine Jl.bind (h1 a (by simp) _ hFr) ⟨max K2 (l.length+1),fun f hf=> ?_⟩
  exact h2 f (by omega) f (by omega)
end
theorem KU (q:Bs)(hq:Ys q):cur (skip ([44,32]++q))=[44]∧adv (skip ([44,32]++q))=q:=by
 have e:skip ([44,32]++q)=[44]++(32::q):=Jx rfl (by decide)
 rw[e]
 exact⟨(ZO rfl).cur,by rw[(ZO rfl).adv,QR,hq.skip]⟩
theorem opd {k:Int}(h:5≤k∧k≤17):k=5∨k=6∨k=7∨k=8∨k=9∨k=10∨k=11∨k=12∨k=13∨k=14∨k=15∨k=16∨k=17:=by omega
theorem HK {k:Int}(h:5≤k∧k≤17):Zd k=(J4 k).2∧1≤(J4 k).2∧(J4 k).2≤5∧JE (J4 k).2 (J4 k).1=some k∧(J4 k).1≠[40]∧
 (([1,2,3,4,5].all fun m=>m==(J4 k).2||(JE m (J4 k).1).isNone)=true)∧∀r,skip ((J4 k).1++32::r)=(J4 k).1++32::r∧ZA (J4 k).1 (32::r):=by
 rcases opd h with rfl|rfl|rfl|rfl|rfl|rfl|rfl|rfl|rfl|rfl|rfl|rfl|rfl <;>
  exact⟨rfl,by decide,by decide,rfl,by decide,rfl,fun r=>⟨rfl,rfl⟩⟩
theorem FI {k:Int}(h:5≤k∧k≤17){m:Nat}(hm:m≠(J4 k).2):JE m (J4 k).1=none:=by
 have:=(HK h).2.2.2.2.2.1
 rcases fH m 6 with h1|h1
 ·rcases Nat.eq_zero_or_pos m with rfl|h2
  ·rfl
  ·rw[cH]at this
   have:=this m (by simp;omega)
   simpa[hm]using this
 ·obtain⟨k,rfl⟩:∃k,m=k+6:=⟨m - 6,by omega⟩
  rfl
theorem DM {n:Nat}{k:Int}{x y:Exp}{u v:Bs}{R:Res Exp}(hk:JE n (cur u)=some k)(h:Jl (fun f=>JA f (n+1) (adv u)) (.ok y v))(hR:Jl (fun f=>if n=3 then .ok (.mk k [] 0 [x,y]) v else ZU f n (.mk k [] 0 [x,y]) v) R):
 Jl (fun f=>ZU f n x u) R:=
 Jl.step (Jl.bind (k:=fun f y u1=>if n=3 then .ok (.mk k [] 0 [x,y]) u1 else ZU f n (.mk k [] 0 [x,y]) u1) h hR) fun f=>by simp only[ZU,hk]
theorem yY {k:Int}(hk:5≤k∧k≤17){a b:Exp}{ta tb:Bs}(ha:PK a ta)(hb:PK b tb):
 PK (.mk k [] 0 [a,b]) (Zr (if Zd k=3 then 4 else Zd k) a.kind ta++[32]++(J4 k).1++[32]++Zr (Zd k+1) b.kind tb):=by
 obtain⟨e0,e1,e5,ek,e40,_,etok⟩:=HK hk
 rw[e0]
 generalize hn:(J4 k).2=n at*
 have hsa:=ha.psol (if n=3 then 4 else n)
 have hsb:=hb.psol (n+1)
 have hlo:∀r R,Kb r→WT (n+1) r→Jl (fun f=>if n=3 then .ok (.mk k [] 0 [a,b]) (skip r)else ZU f n (.mk k [] 0 [a,b]) (skip r)) R→
  Jl (fun f=>JA f n ((Zr (if n=3 then 4 else n) a.kind ta++[32]++(J4 k).1++[32]++Zr (n+1) b.kind tb)++r)) R:=fun r R hr hN hR=>by
  have e:(Zr (if n=3 then 4 else n) a.kind ta++[32]++(J4 k).1++[32]++Zr (n+1) b.kind tb)++r=Zr (if n=3 then 4 else n) a.kind ta++(32::((J4 k).1++32::(Zr (n+1) b.kind tb++r))):=by simp
  rw[e]
  have hsk:skip (32::((J4 k).1++32::(Zr (n+1) b.kind tb++r)))=(J4 k).1++32::(Zr (n+1) b.kind tb++r):=by rw[QR,(etok _).1]
  have hcur:cur (skip (32::((J4 k).1++32::(Zr (n+1) b.kind tb++r))))=(J4 k).1:=by rw[hsk];exact(etok _).2.cur
  have hadv:adv ((J4 k).1++32::(Zr (n+1) b.kind tb++r))=Zr (n+1) b.kind tb++r:=by rw[(etok _).2.adv,QR,hsb.skip_app]
  have hfol:Kb (32::((J4 k).1++32::(Zr (n+1) b.kind tb++r))):=Kx (Qq rfl) hcur e40
  have hnon:WT (n+1) (32::((J4 k).1++32::(Zr (n+1) b.kind tb++r))):=fun m hm=>by rw[hcur];exact FI hk (by omega)
  have hlp:Jl (fun f=>ZU f n a (skip (32::((J4 k).1++32::(Zr (n+1) b.kind tb++r))))) R:=by
   refine DM (k:=k) (y:=b) (v:=skip r) (by rw[hcur];exact ek) ?_ hR
   rw[hsk,hadv]
   exact hb.pfu (by omega) (by omega) r hr hN
  by_cases h3:n=3
  ·rw[fC h3]at*
   subst h3
   exact L3 (by omega) (ha.pfu (n:=4) (by omega) (by omega)) _ _ hfol hnon hlp
  ·rw[fD h3]at*
   exact ha.plo e1 e5 h3 _ _ hfol hnon hlp
 refine zQ ?_ e0 e1 e5 ?_ ?_
 ·simp only[cU];exact hsa.app
 ·intro r hr hN
  refine hlo r _ hr (hN.mono (by omega)) ?_
  by_cases h3:n=3
  ·exact Jl.of fun f=>by rw[fC h3]
  ·exact(MA (hN n (fG _))).cg fun f=>by rw[fD h3]
 ·intro h3 r R hr hN hR
  exact hlo r R hr hN (hR.cg fun f=>by rw[fD h3])
theorem LJ {t:Bs}{r:Bs}{x:Exp}{v:Bs}(h:Jl (fun f=>JX f (t++r)) (.ok x v))(h1:cur (t++r)≠[33])(h2:cur (t++r)≠[45]):Jl (fun f=>Zv f (t++r)) (.ok x v):=
 h.step fun f=>by
  simp only[Zv]
  rw[fD h1,fD (show¬cur (t++r)=YI from h2)]
theorem Lt {u:Nat}{r:Bs}{c:UInt8}(hr:Ur r)(hc:ZX c=false):cur (Lib.decDigits u++r)≠[c]:=by
 rw[(LM hr).cur]
 obtain⟨d,t,e,h⟩:=OA u
 rw[e]
 intro e2
 cases e2
 rw[hc]at h;cases h
theorem UT {n r:Bs}{c:UInt8}(h:Qe n=true)(hr:Ur r)(hc:Y1 c=false):cur (n++r)≠[c]:=by
 rw[(HE h hr).cur]
 obtain⟨d,t,e,h1,_⟩:=UU h
 rw[e]
 intro e2
 cases e2
 rw[hc]at h1;cases h1
theorem zP {i:Int}(hi:ZJ i=true):PK (.mk 1 [] i []) (Lib.itoa i):=L1 (UA i) fun r hr=>by
 simp only[ZJ,dZ]at hi
 rcases Ki i with⟨u,e1,e⟩|⟨u,h0,e1,e⟩ <;> rw[e]
 ·refine LJ (Jl.step Jl.const fun f=> ?_) (Lt hr.1 rfl) (Lt hr.1 rfl)
  simp only[JX]
  rw[fC ON,L8 hr.1 (by omega) (fun h=>by cases h)]
  simp [e1]
 ·have ht:=OF (r:=r) (Ik u)
  rw[cF,←List.singleton_append]
  refine Jl.step Jl.const fun f=> ?_
  simp only[Zv]
  rw[fD (by rw[ht.cur];decide),fC (show cur _=YI from ht.cur),ht.adv,(Ik u).skip_app,fC ON,L8 hr.1 (by omega) fun _=>h0]
  simp [e1]
theorem Kj {n r:Bs}(h:Qe n=true):JP (n++r)=false:=by
 obtain⟨c,t,rfl,h1,_⟩:=UU h
 show ZX c=false
 cases hd:ZX c with
 |false=>rfl
 |true=>rw[Sy hd]at h1;cases h1
theorem Dh {n:Bs}(hn:Qe n=true):PK (.mk 2 n 0 []) n:=L1 (ZG hn) fun r hr=>by
 refine LJ (Jl.step Jl.const fun f=> ?_) (UT hn hr.1 rfl) (UT hn hr.1 rfl)
 simp only[JX]
 rw[fD (by rw[Kj hn];decide),fD (UT hn hr.1 rfl),JG hn hr.1,Q7,fD hr.2]
theorem MG (q:Bs)(_:Ys q):Kb ([44,32]++q)∧WT 1 ([44,32]++q)∧cur (skip ([44,32]++q))≠[63]:=
 have h:cur (skip ([44,32]++q))=[44]:=by rw[show skip ([44,32]++q)=[44]++(32::q)from Jx rfl (by decide)];exact(ZO rfl).cur
 ⟨Kx (Qq rfl) h (by decide),Ig h rfl,by rw[h];decide⟩
theorem D0 {t:Bs}{c:UInt8}(hs:Ys t)(hc:Zf c=false):cur t≠[c]:=by
 obtain⟨d,t,rfl,hd⟩:=hs
 unfold cur
 cases hn:Z4 (d::t)with
 |zero=>simp
 |succ k=>rw[List.take_succ_cons];intro e2;simp only[fQ]at e2;rw[e2.1]at hd;rw[hd]at hc;cases hc
theorem KY {w r u:Bs}(h:skip u=w++r)(ht:ZA w r):Ql w (skip u)=.ok () (skip r):=by rw[h];exact VW ht
theorem Nj {α:Type}{one:Nat→Bs→Res α}{tx:α→Bs}{F:Bs→Prop}(hF:∀q,Ys q→F ([44,32]++q)){r:Bs}(hr:F (41::r)){l:List α}(hl:∀a∈l,Ys (tx a))
 (h1:∀a∈l,∀r,F r→Jl (fun f=>one f (tx a++r)) (.ok a (skip r))):Jl (fun f=>Uf (one f) f (skip (Lib.join (l.map tx) [44,32]++(41::r)))) (.ok l (skip r)):=by
 have c41:cur (skip (41::r))=[41]:=WF rfl rfl (by decide)
 have m41:Ql [41] (skip (41::r))=.ok () (skip r):=KY (Jx rfl (by decide)) (ZO rfl)
 cases l with
 |nil=>
  refine Jl.of fun f=> ?_
  have:skip (Lib.join (List.map tx []) [44,32]++(41::r))=[41]++r:=Jx rfl (by decide)
  rw[this,Uf,fC (ZO rfl).cur,(ZO rfl).adv]
 |cons x xs=>
  have hl':=Il (one:=one) (tx:=tx) (sep:=[44]) (sepT:=[44,32]) (F:=F) KU hF (r:=41::r) hr (by rw[c41];decide) (l:=x::xs) (by simp) hl h1
  have hs:Ys (Lib.join ((x::xs).map tx) [44,32]++(41::r)):=by
   rw[cJ,Lib.join_cons,cU];exact(hl x (by simp)).app
  rw[hs.skip]
  refine Jl.cg (Jl.bind (k:=fun _ l u1=>(Ql [41] u1).bind fun _ u2=>.ok l u2) hl' (Jl.of fun f=>by rw[m41];rfl)) fun f=> ?_
  rw[Uf,fD (D0 hs rfl)]
theorem Di {n:Bs}(hn:Qe n=true){xs:List Exp}(h:∀x∈xs,PK x (Qh x)):PK (.mk 19 n 0 xs) (n++[40]++Lib.join (xs.map Qh) [44,32]++[41]):=by
 refine L1 (by simp only[cU];exact(ZG hn).app) fun r hr=> ?_
 have e:n++[40]++Lib.join (xs.map Qh) [44,32]++[41]++r=n++([40]++(Lib.join (xs.map Qh) [44,32]++(41::r))):=by simp
 rw[e]
 have hc:Ur ([40]++(Lib.join (xs.map Qh) [44,32]++(41::r))):=Qq rfl
 have c41:cur (skip (41::r))=[41]:=WF rfl rfl (by decide)
 have hp:=Nj (one:=fun f u=>Z0 f u) (tx:=Qh) (F:=fun r=>Kb r∧WT 1 r∧cur (skip r)≠[63]) MG (r:=r)
  ⟨Kx (Qq rfl) c41 (by decide),Ig c41 rfl,by rw[c41];decide⟩ (l:=xs) (fun a ha=>(h a ha).sol) (fun a ha r hr=>(h a ha).ex r hr.1 hr.2.1 hr.2.2)
 refine LJ (Jl.step (Jl.bind (k:=fun _ l u2=>Res.ok (Exp.mk 19 n 0 l) u2) hp Jl.const) fun f=> ?_) (UT hn hc rfl) (UT hn hc rfl)
 simp only[JX]
 rw[fD (by rw[Kj hn];decide),fD (UT hn hc rfl),JG hn hc,Q7]
 have:skip ([40]++(Lib.join (xs.map Qh) [44,32]++(41::r)))=[40]++(Lib.join (xs.map Qh) [44,32]++(41::r)):=Jx rfl (by decide)
 rw[this,fC (ZO rfl).cur,(ZO rfl).adv]
theorem Sg {c:UInt8}{k:Int}{x:Exp}{t:Bs}(hs:Ys t)(ht:∀r,ZA [c] (t++r))(hx:Un x t)(hc:c=33∧k=4∨c=45∧k=3∧∀r,JP (t++r)=false):Un (.mk k [] 0 [x]) (c::t):=fun r hr=>by
 have e:c::t++r=[c]++(t++r):=rfl
 rw[e]
 refine Jl.step (Jl.bind (k:=fun _ x u1=>Res.ok (Exp.mk k [] 0 [x]) u1) (hx r hr) Jl.const) fun f=> ?_
 simp only[Zv]
 rcases hc with⟨rfl,rfl⟩|⟨rfl,rfl,hn⟩
 ·rw[fC (ht r).cur,(ht r).adv,hs.skip_app]
 ·rw[fD (by rw[(ht r).cur];decide),fC (show cur _=YI from(ht r).cur),(ht r).adv,hs.skip_app,fD (by rw[hn];decide)]
theorem DJ {x:Exp}(hw:ZC x=true)(hp:6≤Zd x.kind)(h1:¬(x.kind=1∧0≤x.int))(r:Bs):JP (Qh x++r)=false:=by
 obtain⟨k,n,i,xs⟩:=x
 simp only[ZC,cD]at hw
 obtain⟨hh,_⟩:=hw
 simp only[Yf,cD]at hh
 obtain⟨⟨⟨ha,_⟩,_⟩,hn⟩:=hh
 simp only[Exp.kind,Exp.int]at hp h1
 have hk:k=1∨k=2∨k=3∨k=4∨k=19∨k=18∨(5≤k∧k≤17):=by
  unfold Zo at ha
  split at ha
  ·cases ha
  ·rename_i h;split at h
   ·omega
   ·split at h
    ·omega
    ·split at h
     ·omega
     ·split at h
      ·omega
      ·split at h
       ·omega
       ·cases h
  ·rename_i h;split at h
   ·omega
   ·split at h
    ·omega
    ·split at h
     ·omega
     ·split at h
      ·omega
      ·split at h
       ·omega
       ·cases h
 rw[Qh]
 rcases hk with rfl|rfl|rfl|rfl|rfl|rfl|hk
 ·have:i<0:=by omega
  show JP (Lib.itoa i++r)=false
  rcases Ki i with⟨u,e1,e⟩|⟨u,h0,e1,e⟩
  ·omega
  ·rw[e];rfl
 ·simp only[Or.inl rfl,true_or,if_true]at hn
  exact Kj hn
 ·rfl
 ·rfl
 ·simp only[or_true,if_true]at hn
  show JP (n++[40]++_++[41]++r)=false
  simp only[cU]
  exact Kj hn
 ·exact absurd hp (by decide)
 ·have:=HK hk
  omega
theorem Ty:∀{xs:List Exp},Ix xs=true→∀x∈xs,ZC x=true
 |[],_,_,h=>by cases h
 |a::l,hw,x,h=>by
  simp only[Ix,cD]at hw
  rcases dT.1 h with e|h
  ·rw[e];exact hw.1
  ·exact Ty hw.2 x h
mutual
theorem If:∀(x:Exp),ZC x=true→PK x (Qh x)
 | .mk k n i xs,hw=>by
  simp only[ZC,cD]at hw
  obtain⟨hh,hws⟩:=hw
  have hxs:=Sx xs hws
  have hwf:=Ty hws
  simp only[Yf,cD]at hh
  obtain⟨⟨⟨ha,hi⟩,hI⟩,hn⟩:=hh
  have i0:k≠1→i=0:=fun h=>by simpa[h]using hi
  have n0:k≠2→k≠19→n=[]:=fun h h'=>by simpa[h,h']using hn
  rw[Qh,WA]
  by_cases k1:k=1
  ·subst k1
   obtain rfl:xs=[]:=by simpa[Zo]using ha
   rw[n0 (by decide) (by decide)]
   exact zP hI
  rw[i0 k1]
  by_cases k2:k=2
  ·subst k2
   obtain rfl:xs=[]:=by simpa[Zo]using ha
   exact Dh (by simpa using hn)
  by_cases M5:k=19
  ·subst M5
   exact Di (by simpa using hn) hxs
  rw[n0 k2 M5]
  by_cases k3:k=3
  ·subst k3
   obtain⟨a,rfl⟩:∃a,xs=[a]:=fZ.1 (by simpa[Zo]using ha.symm)
   have hp:=hxs a (by simp)
   show PK (.mk 3 [] 0 [a]) (45::Zr (if a.kind=1∧0≤a.int then 8 else 6) a.kind (Qh a))
   refine L1 zC (Sg (hp.psol _) (fun r=>OF (hp.psol _)) (hp.pun (by split <;> omega)) (.inr ⟨rfl,rfl,fun r=> ?_⟩))
   by_cases h1:a.kind=1∧0≤a.int
   ·rw[fC h1,Zr,fC (by rw[h1.1];decide)];rfl
   ·rw[fD h1,Zr]
    split
    ·rfl
    ·exact DJ (hwf a (by simp)) (by omega) h1 r
  by_cases k4:k=4
  ·subst k4
   obtain⟨a,rfl⟩:∃a,xs=[a]:=fZ.1 (by simpa[Zo]using ha.symm)
   have hp:=hxs a (by simp)
   show PK (.mk 4 [] 0 [a]) (33::Zr 6 a.kind (Qh a))
   exact L1 zE (Sg (hp.psol _) (fun r=>F3 (hp.psol _)) (hp.pun (by omega)) (.inl ⟨rfl,rfl⟩))
  by_cases k18:k=18
  ·subst k18
   obtain⟨a,b,c,rfl⟩:∃a b c,xs=[a,b,c]:=by
    have:xs.length=3:=by simpa[Zo]using ha.symm
    match xs,this with
    |[a,b,c],_=>exact⟨a,b,c,rfl⟩
   have pa:=hxs a (by simp)
   have pb:=hxs b (by simp)
   have pc:=hxs c (by simp)
   show PK (.mk 18 [] 0 [a,b,c]) (Zr 1 a.kind (Qh a)++[32,63,32]++Qh b++[32,58,32]++Qh c)
   refine{sol:=by simp only[cU];exact(pa.psol 1).app,fu:=fun n h _ h2=>absurd (show n≤0 from h2) (by omega),lo:=fun n h _ h2 _=>absurd (show n≤0 from h2) (by omega),un:=fun h=>absurd (show 6≤0 from h) (by omega),ex:=fun r hr hN hq=> ?_}
   have e:Zr 1 a.kind (Qh a)++[32,63,32]++Qh b++[32,58,32]++Qh c++r=Zr 1 a.kind (Qh a)++(32::63::32::(Qh b++(32::58::32::(Qh c++r)))):=by simp
   rw[e]
   have s1:skip (32::63::32::(Qh b++(32::58::32::(Qh c++r))))=[63]++(32::(Qh b++(32::58::32::(Qh c++r)))):=by rw[QR];exact Jx rfl (by decide)
   have s2:skip (32::58::32::(Qh c++r))=[58]++(32::(Qh c++r)):=by rw[QR];exact Jx rfl (by decide)
   have c1:=congrArg cur s1;rw[(ZO rfl).cur]at c1
   have c2:=congrArg cur s2;rw[(ZO rfl).cur]at c2
   have h1:=pa.pfu (n:=1) (by omega) (by omega) _ (Kx (Qq rfl) c1 (by decide)) (Ig c1 rfl)
   have h2:=pb.ex _ (Kx (Qq rfl) c2 (by decide)) (Ig c2 rfl) (by rw[c2];decide)
   have h3:=pc.ex r hr hN hq
   refine Jl.step (Jl.bind (k:=fun f x u1=>if cur u1=[63]then
    (Z0 f (adv u1)).bind fun a u2=>(Ql [58] u2).bind fun _ u3=>(Z0 f u3).bind fun b u4=>.ok (.mk 18 [] 0 [x,a,b]) u4
    else .ok x u1) h1 ?_) fun f=>by simp only[Z0]
   rw[s1]
   refine Jl.cg (Jl.bind (k:=fun f y u2=>(Ql [58] u2).bind fun _ u3=>(Z0 f u3).bind fun b u4=>.ok (.mk 18 [] 0 [a,y,b]) u4) h2 ?_) fun f=>by rw[fC (ZO rfl).cur,(ZO rfl).adv,QR,pb.sol.skip_app]
   rw[s2]
   refine Jl.cg (Jl.bind (k:=fun f z u4=>.ok (.mk 18 [] 0 [a,b,z]) u4) h3 Jl.const) fun f=>by rw[VW (ZO rfl),Q7,QR,pc.sol.skip_app]
  have hk:5≤k∧k≤17:=by
   unfold Zo at ha
   rw[fD (by omega),fD (by omega)]at ha
   by_cases h:5≤k∧k≤17
   ·exact h
   ·rw[fD h,fD k18,fD M5]at ha;cases ha
  obtain⟨a,b,rfl⟩:∃a b,xs=[a,b]:=by
   unfold Zo at ha
   rw[fD (by omega),fD (by omega),fC hk]at ha
   have:xs.length=2:=by simpa using ha.symm
   match xs,this with
   |[a,b],_=>exact⟨a,b,rfl⟩
  have:=yY hk (hxs a (by simp)) (hxs b (by simp))
  unfold V0
  rw[fD k1,fD k2,fD k3,fD k4,fD k18,fD M5]
  exact this
theorem Sx:∀(xs:List Exp),Ix xs=true→∀x∈xs,PK x (Qh x)
 |[],_,_,h=>by cases h
 |a::l,hw,x,h=>by
  simp only[Ix,cD]at hw
  rcases dT.1 h with e|h
  ·rw[e];exact If a hw.1
  ·exact Sx l hw.2 x h
end
end Go.Proofs.YtcbjbgaefighcaaGreatDoor
