/- Part 8 of the proof. -/
import Derived.Test.YtcbjbgaefighcaaGreatDoorT0
import Derived.Test.YtcbjbgaefighcaaGreatDoorT7
import Derived.KernelRfl
import Derived.Test.YtcbjbgaefighcaaGreatDoorProg
set_option linter.all false
namespace Go.Ax
open Go
section
variable {G:Nat→Option (List AV)}{env:Qo}{A:Q3}{ds:List QU}
theorem DD {k:IntKind}{n:Int}:Qs G env (.const (.int k n))=.raw (.int k n):=by rw[Qs];rfl
theorem FO {b:Bool}:Qs G env (.const (.bool b))=.raw (.bool b):=by rw[Qs];rfl
theorem DA {s:List UInt8}:Qs G env (.const (.string ⟨s.toArray⟩))=.str s:=by rw[Qs];rfl
theorem DB:Qs G env (.const (.pointer none))=.raw (.pointer none):=by rw[Qs];rfl
theorem zW {n c:Nat}:Qs G env (.const (.slice none n c))=.raw (.slice none n c):=by rw[Qs];rfl
theorem FM:Qs G env (.const .nilIface)=.raw .nilIface:=by rw[Qs];rfl
theorem FN:Qs G env (.const .nilFunc)=.raw .nilFunc:=by rw[Qs];rfl
theorem DC:Qs G env (.const (.map none))=.raw (.map none):=by rw[Qs];rfl
theorem zX {f:FuncId}:Qs G env (.func f)=.func (.func f) [] []:=by rw[Qs]
theorem opA_t {t:Nat}:Qs G env (.tmp t)=env t:=by rw[Qs]
theorem Mz {k:IntKind}{n:Int}:Ze (.int k n)=.raw (.int k n):=by rw[Ze];intros;contradiction
theorem Pt {b:Bool}:Ze (.bool b)=.raw (.bool b):=by rw[Ze];intros;contradiction
theorem Gh {s:List UInt8}:Ze (.string ⟨s.toArray⟩)=.str s:=by rw[Ze]
theorem Gi:Ze (.pointer none)=.raw (.pointer none):=by rw[Ze];intros;contradiction
theorem FW {n c:Nat}:Ze (.slice none n c)=.raw (.slice none n c):=by rw[Ze];intros;contradiction
theorem Pr:Ze .nilIface=.raw .nilIface:=by rw[Ze];intros;contradiction
theorem Ps:Ze .nilFunc=.raw .nilFunc:=by rw[Ze];intros;contradiction
theorem Gj:Ze (.map none)=.raw (.map none):=by rw[Ze];intros;contradiction
theorem qU {b:Bool}:J1 .not (.raw (.bool b))=some (.raw (.bool !b)):=by rw[J1]
theorem qV {k:IntKind}{n:Int}:J1 .neg (.raw (.int k n))=some (.raw (.int k (k.wrap (0 - n)))):=by rw[J1]
theorem GE {k:IntKind}{n:Int}:AV.cells (.raw (.int k n))=[.raw (.int k n)]:=by unfold AV.cells;rfl
theorem PS {b:Bool}:AV.cells (.raw (.bool b))=[.raw (.bool b)]:=by unfold AV.cells;rfl
theorem MK {s:List UInt8}:AV.cells (.str s)=[.str s]:=by unfold AV.cells;rfl
theorem Xj {l:List AV}:AV.cells (.agg l)=l:=by unfold AV.cells;rfl
theorem Ep {a b:Nat}{l:List AV}{t:Option Nat}:AV.cells (.slice a b l t)=[.slice a b l t]:=by unfold AV.cells;rfl
theorem GA {a b:Nat}:AV.cells (.raw (.slice none a b))=[.raw (.slice none a b)]:=by unfold AV.cells;rfl
theorem Gz {a b:Nat}:AV.cells (.ptr a b)=[.ptr a b]:=by unfold AV.cells;rfl
theorem PR {l:List AV}:AV.cells (.iptr l)=[.iptr l]:=by unfold AV.cells;rfl
theorem PP:AV.cells (.raw (.pointer none))=[.raw (.pointer none)]:=by unfold AV.cells;rfl
theorem RW {t:TypeId}{v:AV}:AV.cells (.iface t v)=[.iface t v]:=by unfold AV.cells;rfl
theorem GB:AV.cells (.raw .nilIface)=[.raw .nilIface]:=by unfold AV.cells;rfl
theorem GC:AV.cells (.raw .nilFunc)=[.raw .nilFunc]:=by unfold AV.cells;rfl
theorem Er {f:Fn}{a b:List AV}:AV.cells (.func f a b)=[.func f a b]:=by unfold AV.cells;rfl
theorem GD {m:Nat}:AV.cells (.map m)=[.map m]:=by unfold AV.cells;rfl
theorem LS {k:IntKind}{n:Int}:AV.one (.raw (.int k n))=true:=by unfold AV.one;rfl
theorem FT {b:Bool}:AV.one (.raw (.bool b))=true:=by unfold AV.one;rfl
theorem Ha {s:List UInt8}:AV.one (.str s)=true:=by unfold AV.one;rfl
theorem one_sl {a b:Nat}{l:List AV}{t:Option Nat}:AV.one (.slice a b l t)=true:=by unfold AV.one;rfl
theorem DF {a b:Nat}:AV.one (.raw (.slice none a b))=true:=by unfold AV.one;rfl
theorem DE {a b:Nat}:AV.one (.ptr a b)=true:=by unfold AV.one;rfl
theorem FS {l:List AV}:AV.one (.iptr l)=true:=by unfold AV.one;rfl
theorem FP:AV.one (.raw (.pointer none))=true:=by unfold AV.one;rfl
theorem Gf {t:TypeId}{v:AV}:AV.one (.iface t v)=true:=by unfold AV.one;rfl
theorem DG:AV.one (.raw .nilIface)=true:=by unfold AV.one;rfl
theorem DH:AV.one (.raw .nilFunc)=true:=by unfold AV.one;rfl
theorem zY {f:Fn}{a b:List AV}:AV.one (.func f a b)=true:=by unfold AV.one;rfl
theorem DI {m:Nat}:AV.one (.map m)=true:=by unfold AV.one;rfl
end
section
variable {C:Cx}{s:List Fr}{env:Qo}{ds:List QU}{A:Q3}{d:Option Nat}{l:List LInstr}{k:IntKind}{a b:Int}
theorem jO:C.kvb (Qf .add .num (.raw (.int k a)) (.raw (.int k b))) d l s env ds A=C.ops l s (putD env d (.raw (.int k (k.wrap (a+b))))) ds A:=by
 simp only[Qf,if_true,Zb,cO];exact propext Iff.rfl
theorem jE:C.kvb (Qf .sub .num (.raw (.int k a)) (.raw (.int k b))) d l s env ds A=C.ops l s (putD env d (.raw (.int k (k.wrap (a - b))))) ds A:=by
 simp only[Qf,if_true,Zb,cO];exact propext Iff.rfl
theorem jI:C.kvb (Qf .mul .num (.raw (.int k a)) (.raw (.int k b))) d l s env ds A=C.ops l s (putD env d (.raw (.int k (k.wrap (a*b))))) ds A:=by
 simp only[Qf,if_true,Zb,cO];exact propext Iff.rfl
theorem vF:C.kvb (Qf .or .num (.raw (.int k a)) (.raw (.int k b))) d l s env ds A=C.ops l s (putD env d (.raw (.int k (k.wrap (BitVec.ofInt k.bits a|||BitVec.ofInt k.bits b).toNat)))) ds A:=by
 simp only[Qf,if_true,Zb,cO];exact propext Iff.rfl
theorem jG:C.kvb (Qf .quo .num (.raw (.int k a)) (.raw (.int k b))) d l s env ds A=(b≠0∧C.ops l s (putD env d (.raw (.int k (k.wrap (a.tdiv b))))) ds A):=by
 simp only[Qf,if_true,Zb,Cx.kvb,Cx.kv]
 by_cases h:b=0 <;> simp [h]
theorem jF:C.kvb (Qf .rem .num (.raw (.int k a)) (.raw (.int k b))) d l s env ds A=(b≠0∧C.ops l s (putD env d (.raw (.int k (a.tmod b)))) ds A):=by
 simp only[Qf,if_true,Zb,Cx.kvb,Cx.kv]
 by_cases h:b=0 <;> simp [h]
theorem Wy {p:Prop}[Decidable p]{t:Bool}(ht:t=decide p):C.kvb (some (.raw (.bool t))) d l s env ds A=
 ((p→C.ops l s (putD env d (.raw (.bool true))) ds A)∧(¬p→C.ops l s (putD env d (.raw (.bool false))) ds A)):=by
 subst ht
 rw[HO]
 by_cases h:p <;> simp [h]
theorem HN {p:Prop}[Decidable p]{t:Bool}(ht:t= !decide p):C.kvb (some (.raw (.bool t))) d l s env ds A=
 ((p→C.ops l s (putD env d (.raw (.bool false))) ds A)∧(¬p→C.ops l s (putD env d (.raw (.bool true))) ds A)):=by
 subst ht
 rw[HO]
 by_cases h:p <;> simp [h]
theorem jJ:C.kvb (Qf .lss .num (.raw (.int k a)) (.raw (.int k b))) d l s env ds A=
 ((a<b→C.ops l s (putD env d (.raw (.bool true))) ds A)∧(¬a<b→C.ops l s (putD env d (.raw (.bool false))) ds A)):=by
 simp only[Qf,if_true,Zb,cO];exact Wy rfl
theorem jK:C.kvb (Qf .leq .num (.raw (.int k a)) (.raw (.int k b))) d l s env ds A=
 ((a≤b→C.ops l s (putD env d (.raw (.bool true))) ds A)∧(¬a≤b→C.ops l s (putD env d (.raw (.bool false))) ds A)):=by
 simp only[Qf,if_true,Zb,cO];exact Wy rfl
theorem jL:C.kvb (Qf .gtr .num (.raw (.int k a)) (.raw (.int k b))) d l s env ds A=
 ((b<a→C.ops l s (putD env d (.raw (.bool true))) ds A)∧(¬b<a→C.ops l s (putD env d (.raw (.bool false))) ds A)):=by
 simp only[Qf,if_true,Zb,cO];exact Wy rfl
theorem jM:C.kvb (Qf .geq .num (.raw (.int k a)) (.raw (.int k b))) d l s env ds A=
 ((b≤a→C.ops l s (putD env d (.raw (.bool true))) ds A)∧(¬b≤a→C.ops l s (putD env d (.raw (.bool false))) ds A)):=by
 simp only[Qf,if_true,Zb,cO];exact Wy rfl
theorem jN:C.kvb (Qf .eql .num (.raw (.int k a)) (.raw (.int k b))) d l s env ds A=
 ((a=b→C.ops l s (putD env d (.raw (.bool true))) ds A)∧(¬a=b→C.ops l s (putD env d (.raw (.bool false))) ds A)):=by
 simp only[Qf,if_true,Zb,cO];exact Wy (by rw[fR];simp)
theorem jH:C.kvb (Qf .neq .num (.raw (.int k a)) (.raw (.int k b))) d l s env ds A=
 ((a=b→C.ops l s (putD env d (.raw (.bool false))) ds A)∧(¬a=b→C.ops l s (putD env d (.raw (.bool true))) ds A)):=by
 simp only[Qf,if_true,Zb,cO];exact HN (by rw[fR];simp)
theorem DT {x y:List UInt8}:C.kvb (Qf .eql .num (.str x) (.str y)) d l s env ds A=
 ((x=y→C.ops l s (putD env d (.raw (.bool true))) ds A)∧(¬x=y→C.ops l s (putD env d (.raw (.bool false))) ds A)):=by
 simp only[Qf,ZY];exact Wy (by rw[fR];simp)
theorem DS {x y:List UInt8}:C.kvb (Qf .neq .num (.str x) (.str y)) d l s env ds A=
 ((x=y→C.ops l s (putD env d (.raw (.bool false))) ds A)∧(¬x=y→C.ops l s (putD env d (.raw (.bool true))) ds A)):=by
 simp only[Qf,ZY];exact HN (by rw[fR];simp)
theorem DU {x y:List UInt8}:C.kvb (Qf .add .num (.str x) (.str y)) d l s env ds A=
 (x.length+y.length≤9223372036854775807∧C.ops l s (putD env d (.str (x++y))) ds A):=by
 simp only[Qf,ZY,Cx.kvb,Cx.kv]
 by_cases h:x.length+y.length≤9223372036854775807 <;> simp [h]
theorem DY {x y:Bool}:C.kvb (Qf .eql .bool (.raw (.bool x)) (.raw (.bool y))) d l s env ds A=
 ((x=y→C.ops l s (putD env d (.raw (.bool true))) ds A)∧(¬x=y→C.ops l s (putD env d (.raw (.bool false))) ds A)):=by
 simp only[Qf];exact Wy (by rw[fR];simp)
theorem DX {x y:Bool}:C.kvb (Qf .neq .bool (.raw (.bool x)) (.raw (.bool y))) d l s env ds A=
 ((x=y→C.ops l s (putD env d (.raw (.bool false))) ds A)∧(¬x=y→C.ops l s (putD env d (.raw (.bool true))) ds A)):=by
 simp only[Qf];exact HN (by rw[fR];simp)
theorem DW {lit:Bool}{t:TypeId}{v:AV}:C.kvb (Qf .neq (.nilc .i lit) (.iface t v) (.raw .nilIface)) d l s env ds A=C.ops l s (putD env d (.raw (.bool true))) ds A:=propext Iff.rfl
theorem DV:C.kvb (Qf .neq (.nilc .i true) (.raw .nilIface) (.raw .nilIface)) d l s env ds A=C.ops l s (putD env d (.raw (.bool false))) ds A:=propext Iff.rfl
theorem vE {p:Prop}[Decidable p]{v:AV}:C.kv (if p then some v else none) d l s env ds A=(p∧C.ops l s (putD env d v) ds A):=by
 by_cases h:p <;> simp [h,Cx.kv]
theorem jC {p:Prop}[Decidable p]{v:AV}{n:Nat}{i:LInstr}{t:Sched}{W:U3}:C.kvs (if p then some v else none) n false i t W s env ds A=(p∧C.sch t W s (putD env i.dst v) ds A):=by
 by_cases h:p <;> simp [h,Cx.kvs]
theorem cd_both {t:Bool}{x y:LC}:C.cd (.raw (.bool t)) x y s env ds A=((t=true→C.run x s env ds A)∧(t=false→C.run y s env ds A)):=by
 rw[Es];cases t <;> simp
end
theorem Rt {α:Type}{a b:α}:(if(true:Bool)=true then a else b)=a:=rfl
theorem MT {α:Type}{a b:α}:(if(false:Bool)=true then a else b)=b:=rfl
theorem fin_if {p:Prop}[Decidable p]{v:AV}{K:Out→Q3→Prop}{A:Q3}(hp:p):Vl (if p then some v else none) K A=Vl (some v) K A:=by rw[fC hp]
theorem jD {C:Cx}{s:List Fr}{env:Qo}{ds:List QU}{A:Q3}{d:Option Nat}{l:List LInstr}{cs:List AV}:C.kv (Option.map AV.agg (some cs)) d l s env ds A=C.ops l s (putD env d (.agg cs)) ds A:=propext Iff.rfl
def Ve:=And.intro @DD<|And.intro @FO<|And.intro @DA<|And.intro @DB<|And.intro @zW<|And.intro @FM<|And.intro @FN<|And.intro @DC<|And.intro @zX<|
 And.intro @Mz<|And.intro @Pt<|And.intro @Gh<|And.intro @Gi<|And.intro @FW<|And.intro @Pr<|And.intro @Ps<|And.intro @Gj<|
 And.intro @Qw.eq_1<|And.intro @Qw.eq_2<|And.intro @Qw.eq_3<|And.intro @Qw.eq_4<|And.intro @Qw.eq_5<|And.intro @Qw.eq_6<|And.intro @Qw.eq_7<|And.intro @Qw.eq_8<|And.intro @Qw.eq_9<|
 And.intro @Qw.eq_10<|And.intro @Qw.eq_11<|And.intro @Qw.eq_12<|And.intro @Qw.eq_13<|And.intro @Qw.eq_14<|And.intro @Qw.eq_15<|And.intro @Qw.eq_16<|And.intro @Qw.eq_17<|And.intro @Qw.eq_18<|
 And.intro @Qw.eq_19<|And.intro @Qw.eq_20<|And.intro @Qw.eq_21<|And.intro @Qw.eq_22<|And.intro @Qw.eq_23<|And.intro @Qw.eq_24<|And.intro @Qw.eq_25<|
 And.intro @qU<|@qV
def Vg:=And.intro @jO<|And.intro @jE<|And.intro @jI<|And.intro @vF<|And.intro @jG<|And.intro @jF<|And.intro @jJ<|And.intro @jK<|And.intro @jL<|And.intro @jM<|And.intro @jN<|And.intro @jH<|
 And.intro @DT<|And.intro @DS<|And.intro @DU<|And.intro @DY<|And.intro @DX<|And.intro @DW<|And.intro @DV<|And.intro @vE<|And.intro @jC<|
 And.intro @GE<|And.intro @PS<|And.intro @MK<|And.intro @Xj<|And.intro @Ep<|And.intro @GA<|And.intro @Gz<|And.intro @PR<|And.intro @PP<|And.intro @RW<|And.intro @GB<|And.intro @GC<|And.intro @Er<|And.intro @GD<|
 And.intro @LS<|And.intro @FT<|And.intro @Ha<|And.intro @one_sl<|And.intro @DF<|And.intro @DE<|And.intro @FS<|And.intro @FP<|And.intro @Gf<|And.intro @DG<|And.intro @DH<|And.intro @zY<|And.intro @DI<|
 And.intro @Rt<|@MT
theorem Co {args:List AV}{t:Nat}:Jw args t=args.getD t Ja:=by rw[Jw]
def Vf:=And.intro @Co<|And.intro @List.getD_cons_zero.{0}<|And.intro @List.getD_cons_succ.{0}<|And.intro @Jn.eq_1<|And.intro @Tc.eq_1<|And.intro @J2.eq_1<|And.intro @J2.eq_2<|And.intro @Js.eq_1<|And.intro @Option.map_some.{0,0}<|And.intro @Option.map_none.{0,0}<|And.intro @Bool.not_true<|And.intro @Bool.not_false<|
 And.intro @Y4.eq_1<|And.intro @Y4.eq_2<|And.intro @Y4.eq_3<|And.intro @Y4.eq_4<|And.intro @Jq.eq_1<|And.intro @Jq.eq_2<|And.intro @List.map_cons.{0,0}<|And.intro @List.map_nil.{0,0}<|And.intro @List.nil_append.{0}<|And.intro @List.append_nil.{0}<|And.intro @List.cons_append.{0}<|
 And.intro @Nat.zero_add<|And.intro @Nat.add_zero<|And.intro @List.getElem?_cons_zero.{0}<|And.intro @List.getElem?_cons_succ.{0}<|And.intro @List.length_cons.{0}<|And.intro @List.length_nil.{0}<|And.intro @List.drop_zero.{0}<|And.intro @List.drop_succ_cons.{0}<|And.intro @List.take_succ_cons.{0}<|And.intro @List.take_zero.{0}<|
 And.intro @W8.eq_1<|And.intro @W8.eq_2<|And.intro @List.set_cons_zero.{0}<|And.intro @List.set_cons_succ.{0}<|And.intro @List.all_cons.{0}<|And.intro @List.all_nil.{0}<|And.intro @Bool.and_true<|And.intro @Bool.and_self<|And.intro @Nat.le_refl<|And.intro @Q0<|@QZ
def axR:=And.intro @Kr.eq_1<|And.intro @XY.eq_1<|And.intro @XY.eq_2<|And.intro @L9.eq_1<|And.intro @L9.eq_2<|And.intro @VP.eq_1<|And.intro @VP.eq_2<|And.intro @I3.eq_1<|And.intro @I3.eq_2<|And.intro @Hz.eq_1<|@Hz.eq_2
def K7 (A:Q3)(id:Nat):Prop:=∀(j:Nat) (m:Option Nat) (left:List (AV×AV)) (last:Option (AV×AV)),A j=some (.mit m left last)→m≠some id
theorem K7.upd {A:Q3}{id k:Nat}{o:Option AObj}(h:K7 A id)(ho:∀m l e,o≠some (.mit m l e)):K7 (A.upd k o) id:=fun j m left last hj=>by
 by_cases e:j=k
 ·subst e;rw[Q0]at hj;exact absurd hj (ho _ _ _)
 ·rw[Qa _ _ _ e]at hj;exact h j m left last hj
theorem vB {C:Cx}{s:List Fr}{env:Qo}{ds:List QU}{A:Q3}{d:Option Nat}{l:List LInstr}{fk:FK}{k v:AV}{id:Nat}{es es':List (AV×AV)}(hA:A id=some (.mp es))(hn:K7 A id)(he:Oh fk k v es=some es')
 (h:C.ops l s (putD env d Ja) ds (A.upd id (some (.mp es')))):C.mset fk k v (.map id) d l s env ds A:=by
 simp only[Cx.mset,hA,he,Jp]
 exact⟨hn,h⟩
def QJ:=And.intro @Ji<|And.intro @Jh<|And.intro @Ga<|And.intro @Pp<|And.intro @G6<|And.intro @Dv<|And.intro @Ve<|And.intro @Vg<|And.intro @Vf<|And.intro @Qr<|And.intro @Qm<|And.intro @Option.some.injEq.{0}<|And.intro @Bool.false_eq_true<|And.intro @true_and<|And.intro @and_true<|@Z6
theorem NV {a sz:Nat}{g:Bool}{env:Qo}{A:Q3}:Kr [.cell a sz g] env A=Jq A sz g (env a):=by
 simp only[Kr,XY,L9]
 cases Jq A sz g (env a) <;> rfl
theorem V5 {C:Cx}{s:List Fr}{env:Qo}{ds:List QU}{B:Q3}{d:Option Nat}{l:List LInstr}{fk:FK}{k v:AV}{id:Nat}{es es':List (AV×AV)}(hn:K7 B id)(he:Oh fk k v es=some es')
 (h:C.ops l s (putD env d Ja) ds (B.upd id (some (.mp es')))):C.mset fk k v (.map id) d l s env ds (B.upd id (some (.mp es))):=
 vB (Q0 ..) (K7.upd hn (by simp)) he (by rw[QZ];exact h)
theorem FQ:AV.one (.raw (.map none))=true:=by unfold AV.one;rfl
theorem PQ:AV.cells (.raw (.map none))=[.raw (.map none)]:=by unfold AV.cells;rfl
theorem MI:∀{W:U3} {A:Q3},I4 [] W A=True
 |[],_=>rfl
 |(k,p)::W,A=>by
  have ih:=MI (W:=W) (A:=A)
  simp only[I4,List.contains_nil,cB,if_false,ih,and_self]
theorem Cm {k:IntKind}{a b:Int}:Qf .add .num (.raw (.int k a)) (.raw (.int k b))=some (.raw (.int k (k.wrap (a+b)))):=by simp only[Qf,if_true,Zb,cO]
theorem Ck {k:IntKind}{a b:Int}:Qf .sub .num (.raw (.int k a)) (.raw (.int k b))=some (.raw (.int k (k.wrap (a - b)))):=by simp only[Qf,if_true,Zb,cO]
def axS:=And.intro @MI<|And.intro @Cm<|And.intro @Ck<|And.intro @FQ<|And.intro @PQ<|And.intro @jD<|@NV
theorem Q5 {A:Q3}{id:Nat}{o:Option AObj}{k:Nat}(h:k≠id):A.upd id o k=A k:=Qa _ _ _ h
def QW:=And.intro @I4.eq_1<|And.intro @I4.eq_2<|And.intro @List.contains_cons.{0}<|And.intro @List.contains_nil.{0}<|And.intro @Bool.or_false<|And.intro @Bool.true_or<|And.intro @Bool.or_true<|And.intro @Bool.false_or<|And.intro @ite_self.{1}<|@and_self
def ZR:=And.intro QJ<|And.intro @axS<|@axR
def OD (P:Program)(G:Nat→Option (List AV))(K:Option AV→Q3→Prop):Cx:=⟨P,G,[],EF K,fun _ _ _ _=>False⟩
section
variable {P:Program}{G:Nat→Option (List AV)}{K:Option AV→Q3→Prop}{env:Qo}{A:Q3}
theorem yM:(OD P G K).P=P:=rfl
theorem yN:(OD P G K).G=G:=rfl
theorem Pl:(OD P G K).ex .normal [] env [] A=∃A',U2 A A'∧K none A':=by
 show(([]:List QU)=[]∧∃A',U2 A A'∧K none A')=_
 simp
theorem De:(OD P G K).ex .ret [] env [] A=∃A',U2 A A'∧K none A':=by
 show(([]:List QU)=[]∧∃A',U2 A A'∧K none A')=_
 simp
theorem IR {f:FuncId}{l:LRec}(hl:Ih P f=some l){args:List AV}{pn:Option AV}(hn:args.length≤l.n)(h:(OD P G K).ops l.ops [.seq l.code] (putD (Jw args) l.d (M3 pn)) [] A):K8 P G f args pn A K:=
 RS hl ⟨hn,h⟩
theorem Ej {f:FuncId}{args:List AV}{pn:Option AV}{K:Option AV→Q3→Prop}:XP P G [(f,args)] pn A K=K8 P G f args pn A K:=rfl
theorem K8.mono {f:FuncId}{args:List AV}{pn:Option AV}{K K':Option AV→Q3→Prop}(h:K8 P G f args pn A K)(hk:∀pn A',K pn A'→K' pn A'):K8 P G f args pn A K':=
 ⟨h.1,fun κ w hr vs hv u hu=>(h.2 κ w hr vs hv u hu).mono fun _ _ _ ⟨v,h1,κ',A',pn',h2,h3,h4,h5⟩=>⟨v,h1,κ',A',pn',h2,h3,h4,hk _ _ h5⟩⟩
end
theorem vA {dfr:Bool}{res:List LRes}{P:Program}{G:Nat→Option (List AV)}{K:Out→Q3→Prop}:(Cx.of P G dfr res K).rt=U8 dfr res:=by rw[Cx.of]
theorem Pe {res:List LRes}:U8 true res=res.map YZ:=by simp [U8]
theorem NI {a sz:Nat}{g:Bool}:YZ (.cell a sz g)=a:=by rw[YZ]
theorem Fd {a:Nat}:YZ (.tmp a)=a:=by rw[YZ]
theorem E4 {rt:List Nat}{env:Qo}{t:Nat}:Yy rt env t=if rt.contains t then env t else Ja:=by rw[Yy]
def Xx:=And.intro @vA<|And.intro @Pe<|And.intro @NI<|And.intro @Fd<|And.intro @E4<|And.intro @List.contains_cons.{0}<|And.intro @List.contains_nil.{0}<|And.intro @Bool.or_false<|And.intro @Bool.true_or<|And.intro @Bool.or_true<|And.intro @Bool.false_or<|And.intro @yM<|And.intro @yN<|And.intro @Pl<|And.intro @De<|And.intro @FU<|And.intro @RI<|And.intro @FV<|@Ej
open Go.RowKit
section
variable {P:Program}{G:Nat→Option (List AV)}{κ:Kn}{A:Q3}{w w':World}
theorem Rel.below (h:Rel G κ A w)(hb:Below w.heap.size w w'):Rel G κ A w':={
 imm:=fun b i v hv=>by
  have:=h.imm_lt hv
  rw[←h.imm b i v hv]
  simp only[World.cell?,hb.block b this]
 obj:=fun id ob ho=>by
  obtain⟨b,e,E,h1,h2⟩:=h.obj id ob ho
  refine⟨b,e,E,h1,h2.carry (Kn.le_refl _) (fun k hk=>hb.block k (h2.foot_lt hk)) (fun _ _ _ _ h=>h) fun m left last x _ hx ⟨es,hes⟩=>⟨?_,es,hes⟩⟩
  obtain⟨mb,me,mE,k1,k2⟩:=h.obj m _ hes
  rw[hx]at k1;simp only[cA]at k1;subst k1
  exact hb.block _ k2.block
 inj:=fun id id' ob ob' x x' k h1 h2 h3 h4 h5 h6 h7=>by
  obtain⟨b,e,E,k1,k2⟩:=h.obj id _ h1
  obtain⟨b',e',E',k1',k2'⟩:=h.obj id' _ h2
  rw[h3]at k1;simp only[cA]at k1;subst k1
  rw[h4]at k1';simp only[cA]at k1';subst k1'
  exact h.inj id id' ob ob' _ _ k h1 h2 h3 h4 h5 ((ZW (hb.block _ k2.block) k).1 h6) ((ZW (hb.block _ k2'.block) k).1 h7)
 fin:=h.fin
 glob:=h.glob
 gsz:=fun g cs hg=>⟨by rw[hb.block g (h.glob_lt hg)];exact(h.gsz g cs hg).1,fun⟨id,ob,x,h1,h2,h3⟩=>(h.gsz g cs hg).2 ⟨id,ob,x,h1,h2,by
  obtain⟨b',e,E,k1,k2⟩:=h.obj id _ h1
  rw[h2]at k1;simp only[cA]at k1;subst k1
  exact(ZW (hb.block _ k2.block) g).1 h3⟩⟩
 typ:=fun id cs b e E h1 h2 h3=>by
  obtain⟨a,fr,h4⟩:=h.typ id cs b e E h1 h2 h3
  exact⟨a,fr,by rw[hb.block b (YU h4)];exact h4⟩
 tyq:=fun id b e E h1 h2 h3=>by
  obtain⟨a,fr,h4⟩:=h.tyq id b e E h1 h2 h3
  exact⟨a,fr,by rw[hb.block b (YU h4)];exact h4⟩}
theorem Step.below (h:Rel G κ A w)(hb:Below w.heap.size w w'):Step κ A w κ A w':={
 le:=Kn.le_refl _
 size:=hb.size
 keep:=fun b hlt _=>hb.block b hlt
 trk:=fun b ⟨id,ob,x,h1,h2,h3⟩=>by
  obtain⟨b',e,E,k1,k2⟩:=h.obj id _ h1
  rw[h2]at k1;simp only[cA]at k1;subst k1
  exact .inl ⟨id,ob,_,h1,h2,(ZW (hb.block _ k2.block) b).1 h3⟩
 tape:=hb.tape
 os:=hb.os
 output:=hb.output}
theorem Iv {f:FuncId}{args:List AV}{K:Out→Q3→Prop}(hg:WJ P f=true)
 (h:∀κ w,Rel G κ A w→∀vs:Array Value,Qi κ args vs.toList→Calls P f vs w fun e w'=>Below w.heap.size w w'∧∃o,OC κ o e∧K o A):Qt P G f args A K:=
 ⟨hg,fun κ w hr vs hvs=>(h κ w hr vs hvs).mono fun _ _ ⟨hb,o,h1,h2⟩=>⟨κ,A,o,hr.below hb,.below hr hb,h1,h2⟩⟩
theorem Xk {f:FuncId}{args:List AV}{v:AV}(hg:WJ P f=true)
 (h:∀κ w,Rel G κ A w→∀vs:Array Value,Qi κ args vs.toList→Calls P f vs w fun e w'=>Below w.heap.size w w'∧∃u,e=.returned u∧Qc κ v u):Qu P G f args A v A:=
 Iv hg fun κ w hr vs hvs=>(h κ w hr vs hvs).mono fun _ _ ⟨hb,u,h1,h2⟩=>⟨hb,.ret v,⟨u,h1,h2⟩,rfl,rfl⟩
theorem OK {a:AV}{vs:Array Value}(h:Qi κ [a] vs.toList):∃x,vs=#[x]∧Qc κ a x:=by
 simp only[Qi]at h
 obtain⟨x,xs,h1,h2,h3⟩:=h
 subst h3
 exact⟨x,by apply dN.1;simpa using h1,h2⟩
theorem Xi {a b:AV}{vs:Array Value}(h:Qi κ [a,b] vs.toList):∃x y,vs=#[x,y]∧Qc κ a x∧Qc κ b y:=by
 simp only[Qi]at h
 obtain⟨x,xs,h1,h2,y,ys,h3,h4,h5⟩:=h
 subst h5;subst h3
 exact⟨x,y,by apply dN.1;simpa using h1,h2,h4⟩
theorem NW {a b c:AV}{vs:Array Value}(h:Qi κ [a,b,c] vs.toList):∃x y z,vs=#[x,y,z]∧Qc κ a x∧Qc κ b y∧Qc κ c z:=by
 simp only[Qi]at h
 obtain⟨x,xs,h1,h2,y,ys,h3,h4,z,zs,h5,h6,h7⟩:=h
 subst h7;subst h5;subst h3
 exact⟨x,y,z,by apply dN.1;simpa using h1,h2,h4,h6⟩
theorem UF {s:List UInt8}{u:Value}(h:Qc κ (.str s) u):u=.string ⟨s.toArray⟩:=by simpa[Qc]using h
theorem Y0 {v u:Value}(h:Qc κ (.raw v) u):u=v:=by simpa[Qc]using h
end
end Go.Ax
namespace Go.Ax
open Go
def L5 (P:Program)(G:Nat→Option (List AV))(res:List LRes)(pn:Option AV)(K:Option AV→Q3→Prop):Cx:=
 ⟨P,G,[],fun e env ds A=>ds=[]∧Lb P G ⟨0,false,res,.skip⟩ (fun o A'=>∃v,o=.ret v∧K pn A') e env ds A,fun _ _ _ _=>False⟩
section
variable {P:Program}{G:Nat→Option (List AV)}
theorem NM {κ:Kn}{pn:Option AV}{u:FrameMode}(h:Va κ pn u):settle u=u:=by
 cases pn with
 |none=>simp only[Va]at h;subst h;rfl
 |some v=>obtain⟨x,rfl,_⟩:=h;rfl
theorem RR {fn:Func}{res:List LRes}(hres:Vc P fn.results.toList=some res){pn:Option AV}{K:Option AV→Q3→Prop}{κ:Kn}{A:Q3}{w:World}:
 Ends G [] fn.ntmps κ A w (L5 P G res pn K).Q (L5 P G res pn K).X (bodyPost P fn (fun e w'=>∃v,e=.returned v∧∃κ' A',Rel G κ' A' w'∧Step κ A w κ' A' w'∧K pn A')):={
 q:=fun e κ' A' env' ds' a' w' h1 h2 h3 h4=>by
  have h5:IG (res.map YZ) κ' env' a'.tmps:=fun t _=>h1.env t
  obtain⟨rfl,h4⟩:=h4
  have hd:a'.defers=[]:=by have:=h1.ds;simpa only[V7]using this
  have key:XP P G [] none A' (Vx res env' (fun o A'=>∃v,o=.ret v∧K pn A'))→a'.defers=[]∧∃v,(results fn a'.tmps).run P w'=.ok v w'∧∃v',Ending.returned v=.returned v'∧∃κ' A',Rel G κ' A' w'∧Step κ A w κ' A' w'∧K pn A':=fun h4=>by
   obtain⟨v,hv,κ2,A2,o,k1,k2,k3,v',k4,k5⟩:=Xm hres [] [] none .returning κ' A' w' h1.rel (by simp [V7]) rfl h5 h2 h4
   exact⟨hd,v,hv,v,rfl,κ2,A2,k1,k2,k5⟩
  cases e with
  |normal=>exact key h4
  |exit id=>exact h4.elim
  |ret=>exact key h4
 x:=fun _ _ _ _ _ _ _ _ _ _ _ _ _ _ h7=>h7.elim}
theorem PL {f:FuncId}{n:Nat}{res:List LRes}{c:LC}(hl:Q8 P f=some ⟨n,false,res,c⟩){args:List AV}{pn:Option AV}{A:Q3}{K:Option AV→Q3→Prop}(hn:args.length≤n)
 (h:(L5 P G res pn K).run c [] (Jw args) [] A):K8 P G f args pn A K:=by
 obtain⟨fn,c0,h1,h2,h3,h4,h6,h7⟩:=Hr hl
 simp only at h4 h6 h7
 refine⟨h3,fun κ w hr vs hvs u hu=> ?_⟩
 have hlen:=hvs.length
 simp only[dR]at hlen
 have hn':args.length≤fn.ntmps:=h4▸hn
 refine(callsD_of_wp (u:=u) (R:=fun e w'=>∃v,e=.returned v∧∃κ' A',Rel G κ' A' w'∧Step κ A w κ' A' w'∧K pn A') h1 h2 ?_).mono ?_
 ·exact HU c0 c h7 _ _ _ κ (Jw args) [] A _ w ⟨hr,KI hvs _,by simp [V7]⟩ (by simp;omega) h (RR (pn:=pn) (K:=K) h6)
 rintro e u' w' ⟨rfl,v,rfl,κ',A',k1,k2,k3⟩
 exact⟨v,rfl,κ',A',pn,by rw[NM hu];exact hu.mono k2.le,k1,k2,k3⟩
end
section
variable {P:Program}{G:Nat→Option (List AV)}{res:List LRes}{pn:Option AV}{K:Option AV→Q3→Prop}{env:Qo}{A:Q3}
theorem jY:(L5 P G res pn K).ex .ret [] env [] A=Vl (Kr res env A) (fun o A'=>∃v,o=.ret v∧K pn A') A:=by
 show(([]:List QU)=[]∧Vx res env (fun o A'=>∃v,o=.ret v∧K pn A') none A)=_
 simp [IY]
theorem kB:(L5 P G res pn K).ex .normal [] env [] A=Vl (Kr res env A) (fun o A'=>∃v,o=.ret v∧K pn A') A:=by
 show(([]:List QU)=[]∧Vx res env (fun o A'=>∃v,o=.ret v∧K pn A') none A)=_
 simp [IY]
end
end Go.Ax
namespace Go.Proofs.YtcbjbgaefighcaaGreatDoor
open Go Go.Ax Go.Ax.K Go.Proofs
def C75:LC:=.seq (.ops [o 4 (mc (.bool false))])<|.seq (.ops [o 5 (mv 0),o 6 (mv 1),o 7 (ca 158 [t 5,t 6]),o 4 (mv 7)])<|.ret
theorem l75:Q8 Tryz.prog 75=some ⟨8,false,[.tmp 4],C75⟩:=by kernel_rfl
def C158:LC:=.seq (.ops [o 4 (mc (.bool false))])<|.seq (.ops [o 5 (mv 0),o 6 (.lenOf .str (t 5)),o 7 (mv 1),o 8 (.lenOf .str (t 7)),o 9 (bn .geq 6 8),o 10 (mv 9),gt 10 11 (mv 0),gt 10 12 (mv 1),gt 10 13 (.lenOf .str (t 12)),gt 10 14 (.slStr (t 11) none (some (t 13))),gt 10 15 (mv 1),gt 10 16 (bn .eql 14 15),o 17 (pa 10 16),o 4 (mv 17)])<|.ret
theorem l158:Q8 Tryz.prog 158=some ⟨18,false,[.tmp 4],C158⟩:=by kernel_rfl
def C77:LC:=.seq (.ops [o 2 (mc (.bool false))])<|.seq (.ops [o 3 (mv 0),o 4 (.bin .or .num (t 3) (.const (.int .u8 32))),o 5 (.bin .geq .num (t 4) (.const (.int .u8 97))),o 6 (mv 5),gt 6 7 (mv 0),gt 6 8 (.bin .or .num (t 7) (.const (.int .u8 32))),gt 6 9 (.bin .leq .num (t 8) (.const (.int .u8 122))),o 10 (pa 6 9),o 2 (mv 10)])<|.ret
theorem l77:Q8 Tryz.prog 77=some ⟨11,false,[.tmp 2],C77⟩:=by kernel_rfl
def C78:LC:=.seq (.ops [o 2 (mc (.bool false))])<|.seq (.ops [o 3 (mv 0),o 4 (.bin .geq .num (t 3) (.const (.int .u8 48))),o 5 (mv 4),gt 5 6 (mv 0),gt 5 7 (.bin .leq .num (t 6) (.const (.int .u8 57))),o 8 (pa 5 7),o 2 (mv 8)])<|.ret
theorem l78:Q8 Tryz.prog 78=some ⟨9,false,[.tmp 2],C78⟩:=by kernel_rfl
def C79:LC:=.seq (.ops [o 4 (mc (.bool false))])<|.seq (.ops [o 5 (mv 0),o 6 (mv 1),o 7 (ca 160 [t 5,t 6]),o 8 (bk .geq 7 (0)),o 4 (mv 8)])<|.ret
theorem l79:Q8 Tryz.prog 79=some ⟨9,false,[.tmp 4],C79⟩:=by kernel_rfl
def AI:LC:=.seq (.ops [o 4 (mc (.int .i64 0))])<|.seq (.seq (.ops [o 6 (mv 0),o 7 (le 6),o 8 (mc (.int .i64 0))])<|.block 0<|.loop<|.seq (.ops [o 9 (bn .lss 8 7)])<|.seq (.cond (t 9) (.skip)<|.exit 0)<|.seq (.block 1<|.seq (.ops [o 10 (mv 8),o 5 (mv 10)])<|.seq (.ops [o 11 (mv 1),o 12 (mv 0),o 13 (mv 5),o 14 (ix 1 12 13),o 15 (ld 14),o 16 (bn .eql 11 15)])<|.cond (t 16) (.seq (.ops [o 17 (mv 5),o 4 (mv 17)])<|.ret)<|.skip)<|.ops [o 18 (bk .add 8 (1)),o 8 (mv 18)])<|.seq (.ops [o 4 (mc (.int .i64 (-1)))])<|.ret
theorem l160:Q8 Tryz.prog 160=some ⟨19,false,[.tmp 4],AI⟩:=by kernel_rfl
def Ao:LC:=.seq (.ops [o 2 (mc (.bool false))])<|.seq (.ops [o 3 (mv 0),o 4 (.bin .or .num (t 3) (.const (.int .u8 32))),o 5 (.bin .geq .num (t 4) (.const (.int .u8 97))),o 6 (mv 5),gt 6 7 (mv 0),gt 6 8 (.bin .or .num (t 7) (.const (.int .u8 32))),gt 6 9 (.bin .leq .num (t 8) (.const (.int .u8 122))),o 10 (pa 6 9),o 2 (mv 10)])<|.ret
theorem l189:Q8 Tryz.prog 189=some ⟨11,false,[.tmp 2],Ao⟩:=by kernel_rfl
def An:LC:=.seq (.ops [o 0 (mc (.slice none 0 0))])<|.seq (.ops [⟨some 1,.bslice 9 1 25 [.string ⟨#[]⟩] [(0,.const (.string ⟨#[109,111,100,101,108]⟩)),(1,.const (.string ⟨#[99,108,111,99,107]⟩)),(2,.const (.string ⟨#[118,97,114]⟩)),(3,.const (.string ⟨#[105,110]⟩)),(4,.const (.string ⟨#[99,104,97,110]⟩)),(5,.const (.string ⟨#[98,114,111,97,100,99,97,115,116]⟩)),(6,.const (.string ⟨#[117,114,103,101,110,116]⟩)),(7,.const (.string ⟨#[99,111,109,109,105,116,116,101,100]⟩)),(8,.const (.string ⟨#[102,117,110,99]⟩)),(9,.const (.string ⟨#[112,114,111,99,101,115,115]⟩)),(10,.const (.string ⟨#[105,110,105,116]⟩)),(11,.const (.string ⟨#[108,111,99]⟩)),(12,.const (.string ⟨#[105,110,118]⟩)),(13,.const (.string ⟨#[114,97,116,101]⟩)),(14,.const (.string ⟨#[101,100,103,101]⟩)),(15,.const (.string ⟨#[119,104,101,110]⟩)),(16,.const (.string ⟨#[105,102]⟩)),(17,.const (.string ⟨#[101,108,115,101]⟩)),(18,.const (.string ⟨#[119,104,105,108,101]⟩)),(19,.const (.string ⟨#[114,101,116,117,114,110]⟩)),(20,.const (.string ⟨#[115,121,110,99]⟩)),(21,.const (.string ⟨#[100,111]⟩)),(22,.const (.string ⟨#[114,101,115,101,116]⟩)),(23,.const (.string ⟨#[99,111,115,116]⟩)),(24,.const (.string ⟨#[107,105,110,100]⟩))],none⟩,o 0 (mv 1)])<|.ret
theorem l190:Q8 Tryz.prog 190=some ⟨2,false,[.tmp 0],An⟩:=by kernel_rfl
def Am:LC:=.seq (.ops [o 2 (mc (.bool false))])<|.seq (.ops [o 3 (mv 0),o 4 (.bin .geq .num (t 3) (.const (.int .u8 48))),o 5 (mv 4),gt 5 6 (mv 0),gt 5 7 (.bin .leq .num (t 6) (.const (.int .u8 57))),o 8 (pa 5 7),o 2 (mv 8)])<|.ret
theorem l191:Q8 Tryz.prog 191=some ⟨9,false,[.tmp 2],Am⟩:=by kernel_rfl
def GZ:LC:=.seq (.ops [o 2 (mc (.bool false))])<|.seq (.seq (.ops [o 5 (mv 0),⟨some 6,.bin .eql .num (t 5) (.const (.string ⟨#[]⟩)),none⟩,o 7 (mv 6),gf 7 8 (mv 0),gf 7 9 (.lenOf .str (t 8)),gf 7 10 (bk .gtr 9 (16)),o 11 (po 7 10),o 12 (mv 11),gf 12 13 (mv 0),gf 12 14 (.idxStr (t 13) (.const (.int .i64 0))),gf 12 15 (ca 189 [t 14]),gf 12 16 (.un .not (t 15)),o 17 (po 12 16),o 18 (mv 17),gf 18 19 (ca 190 []),gf 18 20 (mv 0),gf 18 21 (ca 79 [t 19,t 20]),o 22 (po 18 21)])<|.cond (t 22) (.seq (.ops [o 2 (mc (.bool false))])<|.ret)<|.skip)<|.seq (.seq (.ops [o 23 (mv 0),o 24 (.s2b 5 (t 23)),o 25 (le 24),o 26 (mc (.int .i64 0))])<|.block 0<|.loop<|.seq (.ops [o 27 (bn .lss 26 25)])<|.seq (.cond (t 27) (.skip)<|.exit 0)<|.seq (.block 1<|.seq (.ops [o 28 (ix 1 24 26),o 29 (ld 28),o 4 (mv 29)])<|.seq (.ops [o 30 (mv 4),o 31 (ca 189 [t 30]),o 32 (.un .not (t 31)),o 33 (mv 32),gt 33 34 (mv 4),gt 33 35 (ca 191 [t 34]),gt 33 36 (.un .not (t 35)),o 37 (pa 33 36),o 38 (mv 37),gt 38 39 (mv 4),gt 38 40 (.bin .neq .num (t 39) (.const (.int .u8 95))),o 41 (pa 38 40)])<|.cond (t 41) (.seq (.ops [o 2 (mc (.bool false))])<|.ret)<|.skip)<|.ops [o 42 (bk .add 26 (1)),o 26 (mv 42)])<|.seq (.ops [o 2 (mc (.bool true))])<|.ret
theorem l130:Q8 Tryz.prog 130=some ⟨43,false,[.tmp 2],GZ⟩:=by kernel_rfl
def C23:LC:=.seq (.ops [o 5 (mv 0),o 6 (.nchk (t 5)),o 7 (fl 2 6),o 8 (ld 7),o 2 (mv 8)])<|.seq (.block 0<|.loop<|.seq (.seq (.ops [o 9 (mv 2),o 10 (mv 0),o 11 (.nchk (t 10)),o 12 (fl 0 11),o 13 (ld 12),o 14 (.lenOf .str (t 13)),o 15 (bn .lss 9 14)])<|.cond (t 15) (.skip)<|.exit 0)<|.block 1<|.seq (.seq (.ops [o 16 (mv 0),o 17 (.nchk (t 16)),o 18 (fl 0 17),o 19 (ld 18),o 20 (mv 2),o 21 (.slStr (t 19) (some (t 20)) none),⟨some 22,ca 75 [t 21,.const (.string ⟨#[47,47]⟩)],none⟩])<|.cond (t 22) (.seq (.ops [o 23 (mv 0),o 24 (.nchk (t 23)),o 25 (fl 0 24),o 26 (ld 25),o 27 (mv 2),o 28 (.slStr (t 26) (some (t 27)) none),o 29 (ca 76 [t 28,.const (.int .u8 10)]),o 3 (mv 29)])<|.seq (.seq (.ops [o 30 (mv 3),o 31 (bk .lss 30 (0))])<|.cond (t 31) (.ops [o 32 (mv 0),o 33 (.nchk (t 32)),o 34 (fl 0 33),o 35 (ld 34),o 36 (.lenOf .str (t 35)),o 37 (mv 2),o 38 (bn .sub 36 37),o 3 (mv 38)])<|.skip)<|.seq (.ops [o 39 (mv 2),o 40 (mv 3),o 41 (bn .add 39 40),o 2 (mv 41)])<|.exit 1)<|.skip)<|.seq (.seq (.ops [o 42 (mv 0),o 43 (.nchk (t 42)),o 44 (fl 0 43),o 45 (ld 44),o 46 (mv 2),o 47 (.idxStr (t 45) (t 46)),⟨some 48,ca 76 [.const (.string ⟨#[32,9,13,10]⟩),t 47],none⟩,o 49 (bk .lss 48 (0))])<|.cond (t 49) (.exit 0)<|.skip)<|.ops [o 50 (mv 2),o 51 (bk .add 50 (1)),o 2 (mv 51)])<|.seq (.ops [o 52 (mv 0),o 53 (mv 2),o 54 (.nchk (t 52)),o 55 (fl 1 54),e (.store 1 (t 55) (t 53))])<|.seq (.seq (.ops [o 56 (mv 2),o 57 (mv 0),o 58 (.nchk (t 57)),o 59 (fl 0 58),o 60 (ld 59),o 61 (.lenOf .str (t 60)),o 62 (bn .lss 56 61)])<|.cond (t 62) (.seq (.ops [o 63 (mv 0),o 64 (.nchk (t 63)),o 65 (fl 0 64),o 66 (ld 65),o 67 (mv 2),o 68 (.idxStr (t 66) (t 67)),o 4 (mv 68)])<|.block 2<|.seq (.ops [o 72 (mv 4),o 73 (ca 77 [t 72]),o 71 (mv 73)])<|.cond (t 71) (.block 3<|.loop<|.seq (.seq (.ops [o 74 (mv 2),o 75 (mv 0),o 76 (.nchk (t 75)),o 77 (fl 0 76),o 78 (ld 77),o 79 (.lenOf .str (t 78)),o 80 (bn .lss 74 79),o 81 (mv 80),gt 81 82 (mv 0),gt 81 83 (.nchk (t 82)),gt 81 84 (fl 0 83),gt 81 85 (ld 84),gt 81 86 (mv 2),gt 81 87 (.idxStr (t 85) (t 86)),gt 81 88 (ca 77 [t 87]),gt 81 89 (mv 88),gf 89 90 (mv 0),gf 89 91 (.nchk (t 90)),gf 89 92 (fl 0 91),gf 89 93 (ld 92),gf 89 94 (mv 2),gf 89 95 (.idxStr (t 93) (t 94)),gf 89 96 (ca 78 [t 95]),gt 81 97 (po 89 96),gt 81 98 (mv 97),gf 98 99 (mv 0),gf 98 100 (.nchk (t 99)),gf 98 101 (fl 0 100),gf 98 102 (ld 101),gf 98 103 (mv 2),gf 98 104 (.idxStr (t 102) (t 103)),gf 98 105 (.bin .eql .num (t 104) (.const (.int .u8 95))),gt 81 106 (po 98 105),o 107 (pa 81 106)])<|.cond (t 107) (.skip)<|.exit 3)<|.block 4<|.ops [o 108 (mv 2),o 109 (bk .add 108 (1)),o 2 (mv 109)])<|.seq (.ops [o 111 (mv 4),o 112 (ca 78 [t 111]),o 110 (mv 112)])<|.cond (t 110) (.block 5<|.loop<|.seq (.seq (.ops [o 113 (mv 2),o 114 (mv 0),o 115 (.nchk (t 114)),o 116 (fl 0 115),o 117 (ld 116),o 118 (.lenOf .str (t 117)),o 119 (bn .lss 113 118),o 120 (mv 119),gt 120 121 (mv 0),gt 120 122 (.nchk (t 121)),gt 120 123 (fl 0 122),gt 120 124 (ld 123),gt 120 125 (mv 2),gt 120 126 (.idxStr (t 124) (t 125)),gt 120 127 (ca 78 [t 126]),o 128 (pa 120 127)])<|.cond (t 128) (.skip)<|.exit 5)<|.block 6<|.ops [o 129 (mv 2),o 130 (bk .add 129 (1)),o 2 (mv 130)])<|.seq (.ops [o 132 (mv 2),o 133 (bk .add 132 (1)),o 134 (mv 0),o 135 (.nchk (t 134)),o 136 (fl 0 135),o 137 (ld 136),o 138 (.lenOf .str (t 137)),o 139 (bn .lss 133 138),o 140 (mv 139),⟨some 141,.bslice 9 1 8 [.string ⟨#[]⟩] [(0,.const (.string ⟨#[124,124]⟩)),(1,.const (.string ⟨#[38,38]⟩)),(2,.const (.string ⟨#[60,61]⟩)),(3,.const (.string ⟨#[62,61]⟩)),(4,.const (.string ⟨#[61,61]⟩)),(5,.const (.string ⟨#[33,61]⟩)),(6,.const (.string ⟨#[45,62]⟩)),(7,.const (.string ⟨#[46,46]⟩))],some (140,true)⟩,gt 140 142 (mv 0),gt 140 143 (.nchk (t 142)),gt 140 144 (fl 0 143),gt 140 145 (ld 144),gt 140 146 (mv 2),gt 140 147 (mv 2),gt 140 148 (bk .add 147 (2)),gt 140 149 (.slStr (t 145) (some (t 146)) (some (t 148))),gt 140 150 (ca 79 [t 141,t 149]),o 151 (pa 140 150),o 131 (mv 151)])<|.cond (t 131) (.ops [o 152 (mv 2),o 153 (bk .add 152 (2)),o 2 (mv 153)])<|.ops [o 69 (mv 2),o 70 (bk .add 69 (1)),o 2 (mv 70)])<|.skip)<|.ops [o 154 (mv 0),o 155 (mv 2),o 156 (.nchk (t 154)),o 157 (fl 2 156),e (.store 1 (t 157) (t 155))]
theorem l23:Q8 Tryz.prog 23=some ⟨158,false,[],C23⟩:=by kernel_rfl
def C83:LC:=.seq (.ops [⟨some 2,mc (.string ⟨#[]⟩),none⟩])<|.seq (.draw (
v 0 (o 3<|mv 0)<|v 1 (o 4 (.nchk (t 3)))<|v 2 (o 5<|fl 0 4)<|w 3 (o 6<|ld 5)<|v 4 (o 7<|mv 0)<|v 5 (o 8 (.nchk (t 7)))<|v 6 (o 9<|fl 1 8)<|w 7 (o 10<|ld 9)<|v 8 (o 11<|mv 0)<|v 9 (o 12 (.nchk (t 11)))<|v 10 (o 13<|fl 2 12)<|w 11 (o 14<|ld 13)<|v 12 (o 15 (.slStr (t 6) (some (t 10)) (some (t 14))))<|v 13 (o 2<|mv 15)<|.done))<|.ret
theorem l83:Q8 Tryz.prog 83=some ⟨16,false,[.tmp 2],C83⟩:=by kernel_rfl
def C87:LC:=.seq (.ops [o 4 (mc (.bool false))])<|.seq (.seq (.ops [o 5 (mv 0),o 6 (ca 83 [t 5]),o 7 (mv 1),o 8 (bn .neq 6 7)])<|.cond (t 8) (.seq (.ops [o 4 (mc (.bool false))])<|.ret)<|.skip)<|.seq (.ops [o 9 (mv 0),o 10 (ca 23 [t 9])])<|.seq (.ops [o 4 (mc (.bool true))])<|.ret
theorem l87:Q8 Tryz.prog 87=some ⟨11,false,[.tmp 4],C87⟩:=by kernel_rfl
def C80:LC:=.seq (.ops [o 4 (mv 0),o 5 (mv 1),o 6 (ca 87 [t 4,t 5]),o 7 (.un .not (t 6))])<|.cond (t 7) (.ops [o 8 (mv 0),o 9 (ca 89 [t 8])])<|.skip
theorem l80:Q8 Tryz.prog 80=some ⟨10,false,[],C80⟩:=by kernel_rfl
def C81:LC:=.seq (.ops [⟨some 2,mc (.string ⟨#[]⟩),none⟩])<|.seq (.ops [o 4 (mv 0),o 5 (ca 83 [t 4]),o 3 (mv 5)])<|.seq (.seq (.ops [o 6 (mv 3),o 7 (ca 130 [t 6]),o 8 (.un .not (t 7))])<|.cond (t 8) (.ops [o 9 (mv 0),o 10 (ca 89 [t 9])])<|.skip)<|.seq (.ops [o 11 (mv 0),o 12 (ca 23 [t 11])])<|.seq (.ops [o 13 (mv 3),o 2 (mv 13)])<|.ret
theorem l81:Q8 Tryz.prog 81=some ⟨14,false,[.tmp 2],C81⟩:=by kernel_rfl
def C89:LC:=.ops [o 2 (mv 0),o 3 (.nchk (t 2)),o 4 (fl 1 3),o 5 (ld 4),o 6 (.build [.int .i64 0] [(0,1,t 5)]),o 7 (.mkI 59 (t 6)),e (.pan (t 7))]
theorem l89:Q8 Tryz.prog 89=some ⟨8,false,[],C89⟩:=by kernel_rfl
end Go.Proofs.YtcbjbgaefighcaaGreatDoor
