/- Part 37 of the proof. -/
import Derived.Test.YtcbjbgaefighcaaGreatDoorT0
import Derived.Test.YtcbjbgaefighcaaGreatDoorT4
import Derived.Test.YtcbjbgaefighcaaGreatDoorT11
import Derived.Test.YtcbjbgaefighcaaGreatDoorT25
import Derived.Test.YtcbjbgaefighcaaGreatDoorT26
import Derived.Test.YtcbjbgaefighcaaGreatDoorT31
import Derived.Test.YtcbjbgaefighcaaGreatDoorT33
import Derived.Test.YtcbjbgaefighcaaGreatDoorT34
import Derived.Test.YtcbjbgaefighcaaGreatDoorT35
import Derived.Test.YtcbjbgaefighcaaGreatDoorT36
import Derived.KernelRfl
import Derived.OpenShut
import Derived.Deep.Slices
import Derived.Test.YtcbjbgaefighcaaGreatDoorRows
import Derived.Lib.LaidTab
import Derived.RowKit3
import Derived.WideKeyArgs
import Derived.ReadAgain
import Derived.Carry
import Derived.WalkKit
import Derived.ProofKit
import Derived.Deep.DeepHandedRow
import Derived.Test.YtcbjbgaefighcaaGreatDoorCards
import Derived.Test.YtcbjbgaefighcaaGreatDoorTie
set_option linter.all false
namespace Go.Proofs.YtcbjbgaefighcaaGreatDoor
open Go Go.Ax Go.Proofs
def ex1:Bs:=[109,111,100,101,108,32,109,59,32,99,108,111,99,107,32,120,59,32,112,114,111,99,101,115,115,32,80,32,105,110,105,116,32,65,32,123,32,108,111,99,32,65,32,105,110,118,32,120,32,60,61,32,50,59,32,101,100,103,101,32,65,32,45,62,32,65,32,119,104,101,110,32,120,32,61,61,32,50,32,114,101,115,101,116,32,120,32,61,32,48,59,32,125]
def ex2:Bs:=[109,111,100,101,108,32,109,59,32,118,97,114,32,118,32,105,110,32,49,46,46,50,59]
def ex3:Bs:=[109,111,100,101,108,32,109,59,10,99,108,111,99,107,32,120,59,10,112,114,111,99,101,115,115,32,80,32,105,110,105,116,32,65,32,123,10,9,108,111,99,32,65,32,105,110,118,32,120,32,60,61,32,50,59,10,9,101,100,103,101,32,65,32,45,62,32,65,32,119,104,101,110,32,120,32,60,61,32,50,32,38,38,32,120,32,62,61,32,50,32,114,101,115,101,116,32,120,32,61,32,48,59,10,125,10]
def I2:Model:=⟨[109],[[120]],[],[],[],[⟨[80],[65],[⟨[65],0,[⟨[120],false,false,2⟩],0⟩],[⟨[65],[65],[⟨[120],false,false,2⟩,⟨[120],true,false,2⟩],.mk 0 [] 0 [],[],false,[],[⟨[120],0⟩],0,0⟩]⟩]⟩
theorem Bk:Ip 1000 ex1=(I2,0,0):=by kernel_rfl
theorem Bj:Ip 1000 ex2=(I0,22,80):=by kernel_rfl
theorem FZ:Us I2=0:=by kernel_rfl
theorem ex_t:RH I2=ex3:=by kernel_rfl
theorem ex_s:Jz I2 I2=true:=by kernel_rfl
theorem ex_n:Jz I2 I0=false:=by kernel_rfl
theorem ex_g:Us I0=2:=by kernel_rfl
theorem YO {α:Type}{p:α→α→Bool}:∀{xs ys:List α},(∀x∈xs,∀y,p x y=true↔x=y)→(Zi p xs ys=true↔xs=ys)
 |[],[],_=>by simp [Zi]
 |[],_::_,_=>by simp [Zi]
 |_::_,[],_=>by simp [Zi]
 |x::xs,y::ys,h=>by
  simp only[Zi,cD,fQ]
  rw[h x (by simp) y,YO (xs:=xs) (ys:=ys) fun z hz=>h z (by simp [hz])]
mutual
theorem WW:∀a b:Exp,JA a b=true↔a=b
 | .mk k n i xs,.mk k2 n2 i2 ys=>by
  simp only[JA,cD,beq_iff_eq,Exp.mk.injEq]
  rw[Ha xs ys]
theorem Ha:∀a b:List Exp,Xl a b=true↔a=b
 |[],[]=>by simp [Xl]
 |[],_::_=>by simp [Xl]
 |_::_,[]=>by simp [Xl]
 |x::xs,y::ys=>by
  simp only[Xl,cD,fQ]
  rw[WW x y,Ha xs ys]
end
mutual
theorem L1:∀a b:Stmt,Ya a b=true↔a=b
 | .mk k n v b e,.mk k2 n2 v2 b2 e2=>by
  simp only[Ya,cD,beq_iff_eq,Stmt.mk.injEq]
  rw[WW v v2,KP b b2,KP e e2]
theorem KP:∀a b:List Stmt,VT a b=true↔a=b
 |[],[]=>by simp [VT]
 |[],_::_=>by simp [VT]
 |_::_,[]=>by simp [VT]
 |x::xs,y::ys=>by
  simp only[VT,cD,fQ]
  rw[L1 x y,KP xs ys]
end
theorem Mr {xs ys:List Bs}:Zi (fun a b=>a==b) xs ys=true↔xs=ys:=YO fun _ _ _=>beq_iff_eq
theorem L0 (a b:Test):VI a b=true↔a=b:=by
 obtain⟨_,_,_,_⟩:=a;obtain⟨_,_,_,_⟩:=b
 simp only[VI,cD,beq_iff_eq,Test.mk.injEq]
theorem Sx (a b:Clear):XK a b=true↔a=b:=by
 obtain⟨_,_⟩:=a;obtain⟨_,_⟩:=b
 simp only[XK,cD,beq_iff_eq,Clear.mk.injEq]
theorem St (a b:Var):Xj a b=true↔a=b:=by
 obtain⟨_,_,_,_⟩:=a;obtain⟨_,_,_,_⟩:=b
 simp only[Xj,cD,beq_iff_eq,Var.mk.injEq]
theorem R7 (a b:Chan):Ue a b=true↔a=b:=by
 obtain⟨_,_,_⟩:=a;obtain⟨_,_,_⟩:=b
 simp only[Ue,cD,beq_iff_eq,Chan.mk.injEq]
theorem Sy (a b:Assign):VK a b=true↔a=b:=by
 obtain⟨_,v⟩:=a;obtain⟨_,v2⟩:=b
 simp only[VK,cD,beq_iff_eq,Assign.mk.injEq,WW v v2]
theorem Sw (a b:Func):VJ a b=true↔a=b:=by
 obtain⟨_,_,_⟩:=a;obtain⟨_,_,_⟩:=b
 simp only[VJ,cD,beq_iff_eq,Func.mk.injEq,Mr,YO (p:=Ya) fun x _ y=>L1 x y]
theorem Sv (a b:Loc):Yo a b=true↔a=b:=by
 obtain⟨n,k,v,r⟩:=a;obtain⟨n2,k2,v2,r2⟩:=b
 simp only[Yo,cD,beq_iff_eq,Loc.mk.injEq,YO (p:=VI) fun x _ y=>L0 x y]
 constructor
 ·rintro⟨h1,h2,h3,h4⟩;exact⟨h1,h2,h4,h3⟩
 ·rintro⟨h1,h2,h3,h4⟩;exact⟨h1,h2,h4,h3⟩
theorem R6 (a b:Edge):ZD a b=true↔a=b:=by
 obtain⟨_,_,_,c,_,_,_,_,_,_⟩:=a;obtain⟨_,_,_,c2,_,_,_,_,_,_⟩:=b
 simp only[ZD,cD,beq_iff_eq,Edge.mk.injEq,YO (p:=VI) fun x _ y=>L0 x y,YO (p:=VK) fun x _ y=>Sy x y,YO (p:=XK) fun x _ y=>Sx x y,WW c c2]
 constructor
 ·rintro⟨h1,h2,h3,h4,h5,h6,h7,h8,h9,h10⟩;exact⟨h1,h2,h7,h8,h3,h4,h9,h10,h5,h6⟩
 ·rintro⟨h1,h2,h7,h8,h3,h4,h9,h10,h5,h6⟩;exact⟨h1,h2,h3,h4,h5,h6,h7,h8,h9,h10⟩
theorem Su (a b:Proc):Ym a b=true↔a=b:=by
 obtain⟨_,_,_,_⟩:=a;obtain⟨_,_,_,_⟩:=b
 simp only[Ym,cD,beq_iff_eq,Proc.mk.injEq,YO (p:=Yo) fun x _ y=>Sv x y,YO (p:=ZD) fun x _ y=>R6 x y]
theorem ID (a b:Model):Jz a b=true↔a=b:=by
 obtain⟨_,_,_,_,_,_⟩:=a;obtain⟨_,_,_,_,_,_⟩:=b
 simp only[Jz,cD,beq_iff_eq,Model.mk.injEq,Mr,YO (p:=Xj) fun x _ y=>St x y,YO (p:=Ue) fun x _ y=>R7 x y,YO (p:=VJ) fun x _ y=>Sw x y,YO (p:=Ym) fun x _ y=>Su x y]
theorem R4 (a:Model):Jz a a=true:=(ID a a).2 rfl
theorem R5 (a b:Model):Jz a b=Jz b a:=by
 rw[fR,ID,ID];exact eq_comm
open Go.Ax.K
theorem Cl:LtM I0:={
 name:=by decide
 clocks:=by decide
 clock:=by intro c hc;cases hc
 vars:=by decide
 var:=by intro c hc;cases hc
 chans:=by decide
 chan:=by intro c hc;cases hc
 funcs:=by decide
 func:=by intro c hc;cases hc
 size:=by decide
 procs:=by decide
 proc:=by intro c hc;cases hc}
theorem H4:LtM I2:={
 name:=by decide
 clocks:=by decide
 clock:=by decide
 vars:=by decide
 var:=by intro c hc;cases hc
 chans:=by decide
 chan:=by intro c hc;cases hc
 funcs:=by decide
 func:=by intro c hc;cases hc
 size:=by decide
 procs:=by decide
 proc:=by
  intro p hp
  rcases dV.1 hp with rfl
  refine⟨by decide,by decide,by decide,?_,by decide,?_⟩
  ·intro l hl
   rcases dV.1 hl with rfl
   exact⟨by decide,by decide,by decide⟩
  ·intro x hx
   rcases dV.1 hx with rfl
   refine⟨by decide,by decide,by decide,by decide,⟨⟨by decide,by decide,trivial⟩,by decide⟩,by decide,by decide,?_,by decide,by decide⟩
   intro a ha;cases ha}
section
variable (G:Nat→Option (List AV))
theorem n8 (hG:Gl G){A:Q2}:Qz Tryz.prog G 8 [] A (bo true) A:=by
 refine Q4 l8 (fE rfl) ?_
 have h1:=fun A=>n9 G hG (N:=1000) (A:=A) (s:=ex1) (by decide)
 have h2:=fun A=>n9 G hG (N:=1000) (A:=A) (s:=ex2) (by decide)
 rw[Bk]at h1
 rw[Bj]at h2
 have h3:=fun A=>n14 G hG I2 (A:=A) H4
 rw[FZ,fC rfl,ex_t]at h3
 have h4:=fun A=>k16 G I2 (A:=A) H4
 have h5:=fun A=>RL G I2 I2 (A:=A) H4
 have h6:=fun A=>RL G I2 I0 (A:=A) H4
 have h7:=fun A=>k16 G I0 (A:=A) Cl
 rw[FZ]at h4
 rw[ex_s]at h5
 rw[ex_n]at h6
 rw[ex_g]at h7
 unfold C8
 simp only[Tt]at h1 h2
 refine Qa (fun env ds B=>ds=[]∧env 0=bo false∧B=A) ?_ ?_
 ·simp only[Q1,seval]
 rintro env _ B ⟨rfl,e0,rfl⟩
 simp only[Q1,seval]
 refine Q3 (h1 _) ?_
 have q1:I2.cells.length=6:=rfl
 have q2:I2.cells.all AV.one=true:=rfl
 have q3:I2.cells.take 6=I2.cells:=rfl
 have q4:I0.cells.length=6:=rfl
 have q5:I0.cells.all AV.one=true:=rfl
 simp only[q1,q2,q3,Q1,seval]
 intro p hp
 have hO:=(QQ.refl B).set hp (o:=some (.cells I2.cells)) (by simp)
 have hp:(B.upd p (some (.cells I2.cells))) p=some (.cells I2.cells):=Q0 ..
 generalize B.upd p (some (.cells I2.cells))=B1 at*
 refine Q3 (h3 _) ?_
 simp only[Q1,seval]
 refine Q3 (h2 _) ?_
 simp only[q4,q5,Q1,seval]
 intro q hq
 have nq:=Q6 hp hq
 have hO:=hO.set (hO.gone hq) (o:=some (.cells I0.cells)) (by simp)
 have hp:=(Q7 B1 q (some (.cells I0.cells)) nq).trans hp
 generalize B1.upd q (some (.cells I0.cells))=B2 at*
 simp only[hp,q1,q3,Q1,seval]
 refine⟨fun _=> ?_,fun h=>absurd rfl h⟩
 refine Q3 (h4 _) ?_
 simp only[hp,q1,q3,Q1,seval]
 refine Q3 (h5 _) ?_
 simp only[hp,q1,q3,Q1,seval]
 have h6':Qz Tryz.prog G 18 [.agg I2.cells,.agg [.str [],.raw (.slice none 0 0),.raw (.slice none 0 0),.raw (.slice none 0 0),.raw (.slice none 0 0),.raw (.slice none 0 0)]] B2 (bo false) B2:=Qq.wk (.cons (Wk.refl _) (.cons Kg .nil)) (h6 _)
 have h7':Qz Tryz.prog G 16 [.agg [.str [],.raw (.slice none 0 0),.raw (.slice none 0 0),.raw (.slice none 0 0),.raw (.slice none 0 0),.raw (.slice none 0 0)]] B2 (i64 2) B2:=Qq.wk (.cons Kg .nil) (h7 _)
 refine Q3 h6' ?_
 simp only[Q1,seval]
 refine Q3 h7' ?_
 simp only[Q1,seval]
 exact Qb rfl hO
theorem n5 (hG:Gl G)(a b:Model){A:Q2}(ha:LtM a)(hb:LtM b)(hs:SmM a):Qz Tryz.prog G 5 [.agg a.cells,.agg b.cells] A (bo true) A:=by
 have h8:=fun A=>n8 G hG (A:=A)
 have ba:=fun A=>n12 G a (A:=A) ha
 have bb:=fun A=>n12 G b (A:=A) hb
 have s1:=fun A=>n11 G a b (A:=A) ha
 have s2:=fun A=>RL G a b (A:=A) ha
 have s3:=fun A=>RL G b a (A:=A) hb
 have s4:=fun A=>RL G a a (A:=A) ha
 have c1:=fun A=>n13 G a (A:=A) hs
 rw[R5 b a]at s3
 rw[R4]at s4
 have la:a.cells.length=6:=rfl
 have lb:b.cells.length=6:=rfl
 have ta:a.cells.take 6=a.cells:=rfl
 have tb:b.cells.take 6=b.cells:=rfl
 generalize a.cells=ca at*
 generalize b.cells=cb at*
 generalize Jz a b=w at*
 refine Q4 l5 (fE rfl) ?_
 unfold C5
 refine YM rfl rfl fun p q env B e2 e3 hp hq hO=> ?_
 refine Qa (fun env ds B'=>ds=[]∧env 2=.ptr p 0∧env 3=.ptr q 0∧B=B') ?_ ?_
 ·simp only[Q1,seval]
  refine Q3 (h8 _) ?_
  simp only[e2,e3,Q1,seval]
 clear e2 e3
 rintro env _ _ ⟨rfl,e2,e3,rfl⟩
 refine Qa (fun env ds B'=>ds=[]∧env 2=.ptr p 0∧env 3=.ptr q 0∧B=B') ?_ ?_
 ·simp only[e2,e3,hp,la,ta,Q1,seval]
  refine Qh (ba _) ?_
  rintro o B ⟨⟨t,rfl⟩,rfl⟩
  cases t with
  |true=>
   simp only[Q1,seval]
   exact Qb rfl hO
  |false=>
  simp only[e2,e3,hq,lb,tb,Q1,seval]
  refine Qh (bb _) ?_
  rintro o B ⟨⟨t,rfl⟩,rfl⟩
  cases t with
  |true=>
   simp only[Q1,seval]
   exact Qb rfl hO
  |false=>
  simp only[e2,e3,Q1,seval]
 clear e2 e3
 rintro env _ _ ⟨rfl,e2,e3,rfl⟩
 refine Qa (fun env ds B'=>ds=[]∧env 2=.ptr p 0∧env 3=.ptr q 0∧env 5=bo w∧B=B') ?_ ?_
 ·simp only[e2,e3,hp,hq,la,ta,lb,tb,Q1,seval]
  refine Q3 (s1 _) ?_
  simp only[e2,e3,Q1,seval]
 clear e2 e3
 rintro env _ _ ⟨rfl,e2,e3,e5,rfl⟩
 have ew:Qg .eql .bool (bo w) (bo w)=some (bo true):=by cases w <;> rfl
 simp only[e2,e3,e5,hp,hq,la,ta,lb,tb,Q1,seval]
 refine Q3 (s2 _) ?_
 simp only[ew,e2,e3,e5,hp,hq,la,ta,lb,tb,QK,Q1,seval]
 refine Q3 (s3 _) ?_
 simp only[ew,e2,e3,e5,hp,hq,la,ta,lb,tb,QK,Q1,seval]
 refine Q3 (c1 _) ?_
 simp only[hp,hq,la,ta,lb,tb,QK,Q1,seval]
 refine Q3 (s4 _) ?_
 simp only[QK,Q1,seval]
 exact Qb rfl hO
end
end Go.Proofs.YtcbjbgaefighcaaGreatDoor
namespace Go.Proofs.YtcbjbgaefighcaaGreatDoor
open Go Go.Ax Go.Proofs
def κW (W:World):Kn:=⟨fun _=>none,fun b o=>W.cell? ⟨b,o,none⟩⟩
def Zz {α:Type}(wt:α→Nat):List α→Nat
 |[]=>0
 |x::xs=>wt x+Zz wt xs
theorem PG {α:Type}{wt:α→Nat}:∀{a b:List α},Zz wt (a++b)=Zz wt a+Zz wt b
 |[],_=>by simp [Zz]
 |x::a,b=>by simp only[cF,Zz,PG (a:=a)];omega
section
variable {H:Type}(en:TypeId×Value→H)(W:World)
def Rd (t:TypeId){α:Type}(enc:α→List AV)(wt:α→Nat)(n:Nat):Prop:=
 ∀k,k≤n→∀(cs:List Value) (x:DataW H×List MemPlace),DataW.trod en Tryz.prog W 0 (fun _=>true) true k t cs=some x→∃a:α,Qi (κW W) (enc a) cs∧wt a≤Rows.uptoBulk x.1
variable {en W}
theorem Rd.le {t:TypeId}{α:Type}{enc:α→List AV}{wt:α→Nat}{n m:Nat}(h:Rd en W t enc wt n)(hm:m≤n):Rd en W t enc wt m:=fun k hk=>h k (by omega)
theorem Rd.map {t:TypeId}{α β:Type}{enc:α→List AV}{wt:α→Nat}{enc':β→List AV}{wt':β→Nat}{n:Nat}(f:α→β)(h:Rd en W t enc wt n)(he:∀a,enc' (f a)=enc a)(hw:∀a,wt' (f a)≤wt a):Rd en W t enc' wt' n:=fun k hk cs x hx=>by
 obtain⟨a,h1,h2⟩:=h k hk cs x hx
 exact⟨f a,by rw[he];exact h1,fI (hw a) h2⟩
theorem Vb {t:TypeId}{α:Type}{enc:α→List AV}{wt:α→Nat}:Rd en W t enc wt 0:=fun k hk cs x hx=>by
 obtain rfl:k=0:=by omega
 simp [DataW.trod]at hx
theorem YF {t:TypeId}(ht:Tryz.prog.underlying t=some .string)(n:Nat):Rd en W t Zj (fun s=>s.length+1) n:=fun k hk cs x hx=>by
 obtain⟨s,rfl,rfl,_⟩:=DataW.trod_string ht hx
 refine⟨s.data.toList,?_,by simp [Rows.uptoBulk]⟩
 exact JN (by simp [Qd])
theorem VU {t:TypeId}(ht:Tryz.prog.underlying t=some (.int .i64))(n:Nat):Rd en W t (fun i:Int=>[i64 i]) (fun _=>1) n:=fun k hk cs x hx=>by
 obtain⟨i,rfl,rfl,_⟩:=DataW.trod_int ht hx
 exact⟨i,JN (by simp [Qd]),by simp [Rows.uptoBulk]⟩
theorem Ko {t:TypeId}(ht:Tryz.prog.underlying t=some .bool)(n:Nat):Rd en W t (fun b:Bool=>[bo b]) (fun _=>1) n:=fun k hk cs x hx=>by
 obtain⟨i,rfl,rfl⟩:=DataW.trod_bool ht hx
 exact⟨i,JN (by simp [Qd]),by simp [Rows.uptoBulk]⟩
theorem RF {a:Addr}{W:World}{v:Value}(h:W.cell? a=some v):a=⟨a.block,a.off,none⟩:=by
 obtain⟨b,o,s⟩:=a
 cases s with
 |none=>rfl
 |some x=>simp only[World.cell?]at h;split at h <;> simp at h
theorem Tr {us:List Value}{es:List AV}{b o:Nat}(h:Qi (κW W) es us)(hc:∀j,j<us.length→W.cell? ⟨b,o+j,none⟩=us[j]?):Zm (κW W) b es o:=by
 induction es generalizing us o with
 |nil=>simp [Zm]
 |cons e es ih=>
  simp only[Qi]at h
  obtain⟨x,xs,rfl,h1,h2⟩:=h
  simp only[Zm]
  refine⟨⟨x,by simpa[κW]using hc 0 (by simp),h1⟩,ih h2 fun j hj=> ?_⟩
  have:=hc (j+1) (by simpa using hj)
  rw[Nat.add_assoc,Nat.add_comm 1 j]
  simpa using this
theorem Lj (b o n:Nat):(⟨b,o,none⟩:Addr).add n=⟨b,o+n,none⟩:=by
 unfold Addr.add
 split
 ·rename_i h;subst h;rfl
 ·rfl
theorem JV {t e:TypeId}{α:Type}{enc:α→List AV}{wt:α→Nat}{n sz:Nat}(ht:Tryz.prog.underlying t=some (.slice e))(hs:Tryz.prog.cellsOf e=sz)(hpos:0<sz)(hl:∀a,(enc a).length=sz)(h:Rd en W e enc wt n):
 Rd en W t (fun l=>[Qr sz enc l]) (fun l=>1+Zz wt l) (n+1):=fun k hk cs x hx=>by
 rcases DataW.trod_slice ht hx with⟨rfl,rfl⟩|⟨a,len,cap,elems,rest,m,rfl,rfl,rfl,_,hlc,_,hlen,hel,hsp,_⟩
 ·exact⟨[],JN (by simp [Qr,Qd]),by simp [Zz,Rows.uptoBulk]⟩
 rw[hs]at hel hsp
 obtain⟨hrl,hre⟩:=hsp rfl
 by_cases hcap:cap=0
 ·obtain rfl:len=0:=by omega
  subst hcap
  exact⟨[],JN (by simp only[Qr,Qd];exact .inl ⟨trivial,rfl,rfl,some a,rfl⟩),by simp only[Zz,Rows.uptoBulk];omega⟩
 have hsp:∃us,W.cells? 0 (a.add 0) sz=some us:=by
  by_cases h0:len=0
  ·subst h0
   have h5:=hre 0 (by omega)
   rw[dY (by omega)]at h5
   obtain⟨us,h6,_⟩:=fN.1 h5
   exact⟨us,by simpa using h6⟩
  ·have h5:=hel 0 (by omega)
   rw[dY (by omega)]at h5
   obtain⟨us,h6,_⟩:=fN.1 h5
   exact⟨us,by simpa using h6⟩
 obtain⟨us,hus⟩:=hsp
 obtain⟨_,k1,k2⟩:=World.cells?_some hus
 have ha:a=⟨a.block,a.off,none⟩:=by
  have e0:=k2 0 (by omega)
  rw[dY (by omega)]at e0
  exact RF (by simpa[Addr.add]using e0)
 rw[ha]at hel⊢
 generalize a.block=b at*
 generalize a.off=o at*
 clear hus k1 k2 us ha hre hrl
 have key:∀(xs:List (DataW H×List MemPlace)) (i:Nat),i+xs.length=len→(∀j,j<xs.length→elems[i+j]? =xs[j]?)→
  ∃l:List α,l.length=xs.length∧Zm (κW W) b (l.flatMap enc) (o+i*sz)∧Zz wt l≤Rows.uptoBulkAll (xs.map (·.1)):=by
  intro xs
  induction xs with
  |nil=>intro i _ _;exact⟨[],rfl,by simp [Zm],by simp [Zz]⟩
  |cons x xs ih=>
   intro i hi hx
   obtain⟨l,h1,h3,h4⟩:=ih (i+1) (by simp at hi;omega) fun j hj=>by
    have:=hx (j+1) (by simpa using hj)
    rw[Nat.add_assoc,Nat.add_comm 1 j];simpa using this
   have h5:=hel i (by simp at hi;omega)
   rw[show elems[i]? =some x by simpa using hx 0 (by simp)]at h5
   obtain⟨us,h6,h7⟩:=fN.1 h5
   obtain⟨y,h8,h9⟩:=h m (by omega) us x h7
   obtain⟨_,k1,k2⟩:=World.cells?_some h6
   refine⟨y::l,by simp [h1],?_,by simp only[Zz,cJ,Rows.uptoBulkAll];omega⟩
   rw[dD]
   refine Zm.append (Tr h8 fun j hj=> ?_) ?_
   ·have:=k2 j (by omega)
    rw[Lj,Lj]at this
    exact this
   ·rw[hl y,Nat.add_assoc,show i*sz+sz=(i+1)*sz by rw[Nat.succ_mul]]
    exact h3
 obtain⟨l,h1,h3,h4⟩:=key elems 0 (by simpa using hlen) fun j _=>by simp
 refine⟨l,JN ?_,by simp only[Rows.uptoBulk];omega⟩
 simp only[Qr,Qd]
 refine .inr ⟨b,o,cap,by rw[h1,hlen],by omega,?_,by simpa using h3,fun t ht=>by cases ht⟩
 clear h3 h4 key h1
 induction l with
 |nil=>simp
 |cons y l ih=>rw[dD,cC,hl y,ih,cE,Nat.succ_mul];omega
inductive RdS {H:Type} (en:TypeId×Value→H) (W:World) (n:Nat):List (TypeId×Nat×Nat)→Nat→(α:Type)→(α→List AV)→(α→Nat)→Prop where
 |nil {off:Nat}:RdS en W n [] off Unit (fun _=>[]) (fun _=>0)
 |cons {t:TypeId} {off sz:Nat} {fs:List (TypeId×Nat×Nat)} {α β:Type} {enc:α→List AV} {wt:α→Nat} {enc':β→List AV} {wt':β→Nat} (h:Rd en W t enc wt n) (hs:RdS en W n fs (off+sz) β enc' wt'):
  RdS en W n ((t,off,sz)::fs) off (α×β) (fun p=>enc p.1++enc' p.2) (fun p=>wt p.1+wt' p.2)
theorem Mc {κ:Kn}:∀{a b:List AV} {us vs:List Value},Qi κ a us→Qi κ b vs→Qi κ (a++b) (us++vs)
 |[],_,_,_,h,k=>by simp only[Qi]at h;subst h;simpa using k
 |c::a,b,_,vs,h,k=>by
  simp only[Qi]at h
  obtain⟨x,xs,rfl,h1,h2⟩:=h
  simp only[cF,Qi]
  exact⟨x,xs++vs,rfl,h1,Mc h2 k⟩
theorem SD {n m:Nat}(hm:m≤n){cs:List Value}:∀{fs:List (TypeId×Nat×Nat)} {off:Nat} {α:Type} {enc:α→List AV} {wt:α→Nat},RdS en W n fs off α enc wt→∀(xs:List (DataW H×List MemPlace)),xs.length=fs.length→
 cs.length=off+(fs.map (·.2.2)).sum→(∀(i:Nat) (f:TypeId×Nat×Nat),fs[i]? =some f→DataW.trod en Tryz.prog W 0 (fun _=>true) true m f.1 ((cs.drop f.2.1).take f.2.2)=xs[i]?)→
 ∃a:α,Qi (κW W) (enc a) (cs.drop off)∧wt a≤Rows.uptoBulkAll (xs.map (·.1)):=by
 intro fs off α enc wt h
 induction h with
 |nil=>
  intro xs _ hl _
  exact⟨(),by rw[List.drop_of_length_le (by simp at hl;omega)];simp [Qi],lO _⟩
 |cons h hs ih=>
  rename_i t off sz fs α β enc wt enc' wt'
  intro xs hxl hl hf
  match xs,hxl with
  |x::xs,hxl=>
  obtain⟨a,h1,h2⟩:=h m hm _ x (by simpa using hf 0 _ rfl)
  obtain⟨b,h3,h4⟩:=ih xs (by simpa using hxl) (by simp at hl;omega) fun i f hi=>by simpa using hf (i+1) f (by simpa using hi)
  refine⟨(a,b),?_,by simp only[cJ,Rows.uptoBulkAll];omega⟩
  have:=Mc h1 h3
  rwa [show(cs.drop off).take sz++cs.drop (off+sz)=cs.drop off by rw[←lC,fY]]at this
theorem JX {t:TypeId}{fs:Array Field}{n:Nat}{α:Type}{enc:α→List AV}{wt:α→Nat}{l:List (TypeId×Nat×Nat)}(ht:Tryz.prog.underlying t=some (.struct fs))(hl:fs.toList.map (fun f=>(f.type,f.offset,Tryz.prog.cellsOf f.type))=l)(hs:Tryz.prog.cellsOf t=(l.map (·.2.2)).sum)
 (h:RdS en W n l 0 α enc wt):Rd en W t enc (fun a=>1+wt a) (n+1):=fun k hk cs x hx=>by
 obtain⟨xs,m,rfl,rfl,hcl,hxl,hf⟩:=DataW.trod_struct ht hx
 obtain⟨a,h1,h2⟩:=SD (m:=m) (by omega) (cs:=cs) h xs (by rw[hxl,←hl];simp) (by rw[hcl,hs,lN]) fun i f hi=>by
  rw[←hl,List.getElem?_map,cG]at hi
  obtain⟨g,hg,rfl⟩:=hi
  have hg2:fs[i]? =some g:=by rw[←Array.getElem?_toList];exact hg
  have h3:=hf i g hg2
  simp only
  exact h3
 exact⟨a,by simpa using h1,by simp only[Rows.uptoBulk];omega⟩
end
def wS (s:Bs):Nat:=s.length+1
mutual
def wE:Exp→Nat
 | .mk _ n _ xs=>1+n.length+Oc xs
def Oc:List Exp→Nat
 |[]=>0
 |x::xs=>wE x+Oc xs
end
theorem LR:∀xs:List Exp,Oc xs=Zz wE xs
 |[]=>rfl
 |x::xs=>by simp only[Oc,Zz,LR xs]
mutual
def KZ:Stmt→Nat
 | .mk _ n v b e=>1+n.length+wE v+Ub b+Ub e
def Ub:List Stmt→Nat
 |[]=>0
 |x::xs=>KZ x+Ub xs
end
theorem Kk:∀xs:List Stmt,Ub xs=Zz KZ xs
 |[]=>rfl
 |x::xs=>by simp only[Ub,Zz,Kk xs]
def wT (t:Test):Nat:=1+t.clock.length
def HF (t:Clear):Nat:=1+t.clock.length
def wV (t:Var):Nat:=1+t.name.length
def HG (t:Chan):Nat:=1+t.name.length
def wA (a:Assign):Nat:=1+a.name.length+wE a.val
def wL (l:Loc):Nat:=1+l.name.length+Zz wT l.inv
def Od (x:Edge):Nat:=1+x.src.length+x.dst.length+Zz wT x.tests+wE x.cond+x.chan.length+Zz wA x.sets+Zz HF x.clears
def wP (p:Proc):Nat:=1+p.name.length+p.init.length+Zz wL p.locs+Zz Od p.edges
def wF (f:Func):Nat:=1+f.name.length+Zz wS f.params+Zz KZ f.body
def wM (m:Model):Nat:=1+m.name.length+Zz wS m.clocks+Zz wV m.vars+Zz HG m.chans+Zz wF m.funcs+Zz wP m.procs
section
variable {H:Type}{en:TypeId×Value→H}{W:World}
theorem Ts (n:Nat):Rd en W 23 (fun l=>[Qr 1 Zj l]) (fun l=>1+Zz wS l) n:=(JV (sz:=1) Tryz.underlying23 (by kernel_rfl) (by decide) (fun _=>rfl) (YF Tryz.underlying9 n)).le (fV n)
theorem rd_T:∀n,Rd en W 179 Test.cells wT n
 |0=>Vb
 |n+1=>(JX (l:=[(9,0,1),(4,1,1),(4,2,1),(2,3,1)]) Tryz.underlying179 (by kernel_rfl) (by kernel_rfl) (.cons (YF Tryz.underlying9 n) (.cons (Ko Tryz.underlying4 n) (.cons (Ko Tryz.underlying4 n) (.cons (VU Tryz.underlying2 n) .nil))))).map (fun p=>⟨p.1,p.2.1,p.2.2.1,p.2.2.2.1⟩) (fun p=>rfl) (fun p=>by simp only[wT,wS];omega)
theorem B4:∀n,Rd en W 163 Clear.cells HF n
 |0=>Vb
 |n+1=>(JX (l:=[(9,0,1),(2,1,1)]) Tryz.underlying163 (by kernel_rfl) (by kernel_rfl) (.cons (YF Tryz.underlying9 n) (.cons (VU Tryz.underlying2 n) .nil))).map (fun p=>⟨p.1,p.2.1⟩) (fun p=>rfl) (fun p=>by simp only[HF,wS];omega)
theorem rd_V:∀n,Rd en W 88 Var.cells wV n
 |0=>Vb
 |n+1=>(JX (l:=[(9,0,1),(2,1,1),(2,2,1),(2,3,1)]) Tryz.underlying88 (by kernel_rfl) (by kernel_rfl) (.cons (YF Tryz.underlying9 n) (.cons (VU Tryz.underlying2 n) (.cons (VU Tryz.underlying2 n) (.cons (VU Tryz.underlying2 n) .nil))))).map (fun p=>⟨p.1,p.2.1,p.2.2.1,p.2.2.2.1⟩) (fun p=>rfl) (fun p=>by simp only[wV,wS];omega)
theorem B5:∀n,Rd en W 90 Chan.cells HG n
 |0=>Vb
 |n+1=>(JX (l:=[(9,0,1),(4,1,1),(4,2,1)]) Tryz.underlying90 (by kernel_rfl) (by kernel_rfl) (.cons (YF Tryz.underlying9 n) (.cons (Ko Tryz.underlying4 n) (.cons (Ko Tryz.underlying4 n) .nil)))).map (fun p=>⟨p.1,p.2.1,p.2.2.1⟩) (fun p=>rfl) (fun p=>by simp only[HG,wS];omega)
theorem NR (n:Nat):Rd en W 49 (fun l=>[Qr 4 Test.cells l]) (fun l=>1+Zz wT l) n:=(JV (sz:=4) Tryz.underlying49 (by kernel_rfl) (by decide) (fun _=>rfl) (rd_T n)).le (fV n)
theorem Ca (n:Nat):Rd en W 51 (fun l=>[Qr 2 Clear.cells l]) (fun l=>1+Zz HF l) n:=(JV (sz:=2) Tryz.underlying51 (by kernel_rfl) (by decide) (fun _=>rfl) (B4 n)).le (fV n)
theorem CV (n:Nat):Rd en W 24 (fun l=>[Qr 4 Var.cells l]) (fun l=>1+Zz wV l) n:=(JV (sz:=4) Tryz.underlying24 (by kernel_rfl) (by decide) (fun _=>rfl) (rd_V n)).le (fV n)
theorem Cb (n:Nat):Rd en W 25 (fun l=>[Qr 3 Chan.cells l]) (fun l=>1+Zz HG l) n:=(JV (sz:=3) Tryz.underlying25 (by kernel_rfl) (by decide) (fun _=>rfl) (B5 n)).le (fV n)
theorem TN:∀n,Rd en W 42 Exp.cells wE n
 |0=>Vb
 |n+1=>(JX (l:=[(3,0,1),(9,1,1),(2,2,1),(40,3,1)]) Tryz.underlying42 (by kernel_rfl) (by kernel_rfl) (.cons (VU Tryz.underlying3 n) (.cons (YF Tryz.underlying9 n) (.cons (VU Tryz.underlying2 n) (.cons ((JV (sz:=4) Tryz.underlying40 (by kernel_rfl) (by decide) Exp.cells_len (TN n)).le (fV n)) .nil))))).map
  (fun p=>.mk p.1 p.2.1 p.2.2.1 p.2.2.2.1) (fun p=>by simp only[Exp.cells,Exp.cellsL_eq,Qr,Zj];rfl) (fun p=>by simp only[wE,LR];omega)
theorem TV:∀n,Rd en W 175 Stmt.cells KZ n
 |0=>Vb
 |n+1=>(JX (l:=[(3,0,1),(9,1,1),(42,2,4),(78,6,1),(78,7,1)]) Tryz.underlying175 (by kernel_rfl) (by kernel_rfl) (.cons (VU Tryz.underlying3 n) (.cons (YF Tryz.underlying9 n) (.cons (TN n) (.cons ((JV (sz:=8) Tryz.underlying78 (by kernel_rfl) (by decide) Stmt.cells_len (TV n)).le (fV n)) (.cons ((JV (sz:=8) Tryz.underlying78 (by kernel_rfl) (by decide) Stmt.cells_len (TV n)).le (fV n)) .nil)))))).map
  (fun p=>.mk p.1 p.2.1 p.2.2.1 p.2.2.2.1 p.2.2.2.2.1) (fun p=>by simp only[Stmt.cells,Stmt.cellsL_eq,Qr,Zj,cU];rfl) (fun p=>by simp only[KZ,Kk];omega)
theorem DZ (n:Nat):Rd en W 78 (fun l=>[Qr 8 Stmt.cells l]) (fun l=>1+Zz KZ l) n:=(JV (sz:=8) Tryz.underlying78 (by kernel_rfl) (by decide) Stmt.cells_len (TV n)).le (fV n)
theorem rd_A:∀n,Rd en W 56 Assign.cells wA n
 |0=>Vb
 |n+1=>(JX (l:=[(9,0,1),(42,1,4)]) Tryz.underlying56 (by kernel_rfl) (by kernel_rfl) (.cons (YF Tryz.underlying9 n) (.cons (TN n) .nil))).map (fun p=>⟨p.1,p.2.1⟩) (fun p=>by simp only[Assign.cells,Zj,cN];rfl) (fun p=>by simp only[wA,wS];omega)
theorem B6 (n:Nat):Rd en W 50 (fun l=>[Qr 5 Assign.cells l]) (fun l=>1+Zz wA l) n:=(JV (sz:=5) Tryz.underlying50 (by kernel_rfl) (by decide) Assign.cells_len (rd_A n)).le (fV n)
theorem rd_L:∀n,Rd en W 97 Loc.cells wL n
 |0=>Vb
 |n+1=>(JX (l:=[(9,0,1),(3,1,1),(49,2,1),(2,3,1)]) Tryz.underlying97 (by kernel_rfl) (by kernel_rfl) (.cons (YF Tryz.underlying9 n) (.cons (VU Tryz.underlying3 n) (.cons (NR n) (.cons (VU Tryz.underlying2 n) .nil))))).map (fun p=>⟨p.1,p.2.1,p.2.2.1,p.2.2.2.1⟩) (fun p=>rfl) (fun p=>by simp only[wL,wS];omega)
theorem CX (n:Nat):Rd en W 45 (fun l=>[Qr 4 Loc.cells l]) (fun l=>1+Zz wL l) n:=(JV (sz:=4) Tryz.underlying45 (by kernel_rfl) (by decide) (fun _=>rfl) (rd_L n)).le (fV n)
theorem CZ:∀n,Rd en W 53 Edge.cells Od n
 |0=>Vb
 |n+1=>(JX (l:=[(9,0,1),(9,1,1),(49,2,1),(42,3,4),(9,7,1),(4,8,1),(50,9,1),(51,10,1),(2,11,1),(3,12,1)]) Tryz.underlying53 (by kernel_rfl) (by kernel_rfl) (.cons (YF Tryz.underlying9 n) (.cons (YF Tryz.underlying9 n) (.cons (NR n) (.cons (TN n) (.cons (YF Tryz.underlying9 n) (.cons (Ko Tryz.underlying4 n) (.cons (B6 n) (.cons (Ca n) (.cons (VU Tryz.underlying2 n) (.cons (VU Tryz.underlying3 n) .nil))))))))))).map (fun p=>⟨p.1,p.2.1,p.2.2.1,p.2.2.2.1,p.2.2.2.2.1,p.2.2.2.2.2.1,p.2.2.2.2.2.2.1,p.2.2.2.2.2.2.2.1,p.2.2.2.2.2.2.2.2.1,p.2.2.2.2.2.2.2.2.2.1⟩) (fun p=>by simp only[Edge.cells,Zj,cU];rfl) (fun p=>by simp only[Od,wS];omega)
theorem C0 (n:Nat):Rd en W 46 (fun l=>[Qr 13 Edge.cells l]) (fun l=>1+Zz Od l) n:=(JV (sz:=13) Tryz.underlying46 (by kernel_rfl) (by decide) Edge.cells_len (CZ n)).le (fV n)
theorem rd_P:∀n,Rd en W 48 Proc.cells wP n
 |0=>Vb
 |n+1=>(JX (l:=[(9,0,1),(9,1,1),(45,2,1),(46,3,1)]) Tryz.underlying48 (by kernel_rfl) (by kernel_rfl) (.cons (YF Tryz.underlying9 n) (.cons (YF Tryz.underlying9 n) (.cons (CX n) (.cons (C0 n) .nil))))).map (fun p=>⟨p.1,p.2.1,p.2.2.1,p.2.2.2.1⟩) (fun p=>rfl) (fun p=>by simp only[wP,wS];omega)
theorem CW (n:Nat):Rd en W 27 (fun l=>[Qr 4 Proc.cells l]) (fun l=>1+Zz wP l) n:=(JV (sz:=4) Tryz.underlying27 (by kernel_rfl) (by decide) (fun _=>rfl) (rd_P n)).le (fV n)
theorem rd_F:∀n,Rd en W 80 Func.cells wF n
 |0=>Vb
 |n+1=>(JX (l:=[(9,0,1),(23,1,1),(78,2,1)]) Tryz.underlying80 (by kernel_rfl) (by kernel_rfl) (.cons (YF Tryz.underlying9 n) (.cons (Ts n) (.cons (DZ n) .nil)))).map (fun p=>⟨p.1,p.2.1,p.2.2.1⟩) (fun p=>rfl) (fun p=>by simp only[wF,wS];omega)
theorem CY (n:Nat):Rd en W 26 (fun l=>[Qr 3 Func.cells l]) (fun l=>1+Zz wF l) n:=(JV (sz:=3) Tryz.underlying26 (by kernel_rfl) (by decide) (fun _=>rfl) (rd_F n)).le (fV n)
theorem rd_M:∀n,Rd en W 29 Model.cells wM n
 |0=>Vb
 |n+1=>(JX (l:=[(9,0,1),(23,1,1),(24,2,1),(25,3,1),(26,4,1),(27,5,1)]) Tryz.underlying29 (by kernel_rfl) (by kernel_rfl) (.cons (YF Tryz.underlying9 n) (.cons (Ts n) (.cons (CV n) (.cons (Cb n) (.cons (CY n) (.cons (CW n) .nil))))))).map (fun p=>⟨p.1,p.2.1,p.2.2.1,p.2.2.2.1,p.2.2.2.2.1,p.2.2.2.2.2.1⟩) (fun p=>rfl) (fun p=>by simp only[wM,wS];omega)
end
theorem Y7 {α:Type}{wt:α→Nat}:∀{xs:List α} {x:α},x∈xs→wt x≤Zz wt xs
 |y::ys,x,h=>by
  simp only[Zz]
  rcases dT.1 h with rfl|h
  ·omega
  ·have:=Y7 (wt:=wt) h;omega
theorem Jw {α:Type}{wt:α→Nat}(h:∀x,1≤wt x):∀{xs:List α},xs.length≤Zz wt xs
 |[]=>lO _
 |x::xs=>by have:=Jw h (xs:=xs);have:=h x;simp only[Zz,cE];omega
theorem DT:∀x,1≤wE x
 | .mk _ _ _ _=>by simp only[wE];omega
theorem Tg:∀x,1≤KZ x
 | .mk _ _ _ _ _=>by simp only[KZ];omega
theorem G2 (xs:List Exp):xs.length≤Oc xs:=by rw[LR];exact Jw DT
theorem LV (xs:List Stmt):xs.length≤Ub xs:=by rw[Kk];exact Jw Tg
mutual
theorem LQ:∀x:Exp,wE x≤2097152→UA x∧OS x∧(Zv x).nodes≤wE x
 | .mk _ n _ xs,h=>by
  simp only[wE]at h
  have hl:=G2 xs
  obtain⟨h1,h2,h3⟩:=NV xs ⟨1,1,decide (xs.length>4)⟩ (by omega)
  exact⟨by simp only[UA];exact⟨by omega,by omega,h1⟩,by simp only[OS];exact⟨by omega,h2⟩,by simp only[Zv,wE];simp only at h3;omega⟩
theorem NV:∀(xs:List Exp) (m:Siz),Oc xs≤2097152→Ou xs∧Hq xs∧(Jb m xs).nodes≤m.nodes+Oc xs
 |[],m,_=>⟨trivial,trivial,by simp [Jb,Oc]⟩
 |x::xs,m,h=>by
  simp only[Oc]at h
  obtain⟨a1,a2,a3⟩:=LQ x (by omega)
  obtain⟨b1,b2,b3⟩:=NV xs (m.inn (Zv x)) (by omega)
  refine⟨by simp only[Ou];exact⟨a1,b1⟩,by simp only[Hq];exact⟨a2,b2⟩,?_⟩
  simp only[Jb,Oc]
  have:(m.inn (Zv x)).nodes=m.nodes+(Zv x).nodes:=rfl
  omega
end
mutual
theorem Ft:∀x:Stmt,KZ x≤2097152→Wp x∧RJ x∧(ZX x).nodes≤KZ x
 | .mk _ n v b e,h=>by
  simp only[KZ]at h
  have hl1:=LV b
  have hl2:=LV e
  obtain⟨a1,a2,a3⟩:=LQ v (by omega)
  obtain⟨b1,b2,b3⟩:=Lx b (Siz.inn ⟨1,1,false⟩ (Zv v)) (by omega)
  obtain⟨c1,c2,c3⟩:=Lx e (Z2 (Siz.inn ⟨1,1,false⟩ (Zv v)) b) (by omega)
  refine⟨by simp only[Wp];exact⟨by omega,a1,by omega,by omega,b1,c1⟩,by simp only[RJ];exact⟨a2,by omega,by omega,b2,c2⟩,?_⟩
  simp only[ZX,KZ]
  have:(Siz.inn ⟨1,1,false⟩ (Zv v)).nodes=1+(Zv v).nodes:=rfl
  omega
theorem Lx:∀(xs:List Stmt) (m:Siz),Ub xs≤2097152→Xx xs∧Kx xs∧(Z2 m xs).nodes≤m.nodes+Ub xs
 |[],m,_=>⟨trivial,trivial,by simp [Z2,Ub]⟩
 |x::xs,m,h=>by
  simp only[Ub]at h
  obtain⟨a1,a2,a3⟩:=Ft x (by omega)
  obtain⟨b1,b2,b3⟩:=Lx xs (m.inn (ZX x)) (by omega)
  refine⟨by simp only[Xx];exact⟨a1,b1⟩,by simp only[Kx];exact⟨a2,b2⟩,?_⟩
  simp only[Z2,Ub]
  have:(m.inn (ZX x)).nodes=m.nodes+(ZX x).nodes:=rfl
  omega
end
theorem Tm:∀(xs:List Stmt) (m:Siz),Ub xs≤2097152→(Zn m xs).nodes≤m.nodes+Ub xs
 |[],m,_=>by simp [Zn,Ub]
 |x::xs,m,h=>by
  simp only[Ub]at h
  have a:=(Ft x (by omega)).2.2
  have b:=Tm xs (m.bes (ZX x)) (by omega)
  have:(m.bes (ZX x)).nodes=m.nodes+(ZX x).nodes:=rfl
  simp only[Ub]
  show(Zn (m.bes (ZX x)) xs).nodes≤_
  omega
theorem Tn:∀(xs:List Func) (m:Siz),Zz wF xs≤2097152→(ZJ m xs).nodes≤m.nodes+Zz wF xs
 |[],m,_=>by simp [ZJ,Zz]
 |x::xs,m,h=>by
  simp only[Zz]at h
  have hw:Ub x.body≤wF x:=by rw[Kk];simp only[wF];omega
  have a:=Tm x.body m (by omega)
  have b:=Tn xs (Zn m x.body) (by omega)
  simp only[Zz]
  show(ZJ (Zn m x.body) xs).nodes≤_
  omega
theorem FT (f:Func)(h:wF f≤2097152):I9 f∧smF f:=by
 simp only[wF]at h
 have hl1:=Jw (wt:=wS) (fun _=>by simp only[wS];omega) (xs:=f.params)
 have hl2:=Jw Tg (xs:=f.body)
 obtain⟨b1,b2,_⟩:=Lx f.body ⟨0,0,false⟩ (by rw[Kk];omega)
 exact⟨⟨by omega,by omega,fun p hp=>by have:=Y7 (wt:=wS) hp;simp only[wS]at this;omega,by omega,b1⟩,by omega,by omega,b2⟩
theorem FB (l:Loc)(h:wL l≤2097152):ltL l∧l.inv.length≤2097152:=by
 simp only[wL]at h
 have hl1:=Jw (wt:=wT) (fun _=>by simp only[wT];omega) (xs:=l.inv)
 exact⟨⟨by omega,by omega,fun p hp=>by have:=Y7 (wt:=wT) hp;simp only[wT]at this;omega⟩,by omega⟩
theorem E1 (x:Edge)(h:Od x≤2097152):K2 x∧TM x:=by
 simp only[Od]at h
 have hl1:=Jw (wt:=wT) (fun _=>by simp only[wT];omega) (xs:=x.tests)
 have hl2:=Jw (wt:=wA) (fun _=>by simp only[wA];omega) (xs:=x.sets)
 have hl3:=Jw (wt:=HF) (fun _=>by simp only[HF];omega) (xs:=x.clears)
 obtain⟨c1,c2,c3⟩:=LQ x.cond (by omega)
 have hs:∀a∈x.sets,a.name.length≤2097152∧wE a.val≤2097152:=fun a ha=>by have:=Y7 (wt:=wA) ha;simp only[wA]at this;omega
 exact⟨⟨by omega,by omega,by omega,fun p hp=>by have:=Y7 (wt:=wT) hp;simp only[wT]at this;omega,⟨c1,by omega⟩,by omega,by omega,
  fun a ha=>by have:=hs a ha;have:=LQ a.val this.2;exact⟨by omega,this.1,by omega⟩,by omega,fun p hp=>by have:=Y7 (wt:=HF) hp;simp only[HF]at this;omega⟩,
  by omega,c2,by omega,fun a ha=>(LQ a.val (hs a ha).2).2.1,by omega⟩
theorem Fu (p:Proc)(h:wP p≤2097152):T8 p∧smP p:=by
 simp only[wP]at h
 have hl1:=Jw (wt:=wL) (fun _=>by simp only[wL];omega) (xs:=p.locs)
 have hl2:=Jw (wt:=Od) (fun _=>by simp only[Od];omega) (xs:=p.edges)
 have hL:∀l∈p.locs,wL l≤2097152:=fun l hl=>by have:=Y7 (wt:=wL) hl;omega
 have hE:∀l∈p.edges,Od l≤2097152:=fun l hl=>by have:=Y7 (wt:=Od) hl;omega
 exact⟨⟨by omega,by omega,by omega,fun l hl=>(FB l (hL l hl)).1,by omega,fun l hl=>(E1 l (hE l hl)).1⟩,
  by omega,fun l hl=>(FB l (hL l hl)).2,by omega,fun l hl=>(E1 l (hE l hl)).2⟩
theorem FA (m:Model)(h:wM m≤2097152):LtM m∧SmM m:=by
 simp only[wM]at h
 have hl1:=Jw (wt:=wS) (fun _=>by simp only[wS];omega) (xs:=m.clocks)
 have hl2:=Jw (wt:=wV) (fun _=>by simp only[wV];omega) (xs:=m.vars)
 have hl3:=Jw (wt:=HG) (fun _=>by simp only[HG];omega) (xs:=m.chans)
 have hl4:=Jw (wt:=wF) (fun _=>by simp only[wF];omega) (xs:=m.funcs)
 have hl5:=Jw (wt:=wP) (fun _=>by simp only[wP];omega) (xs:=m.procs)
 have hF:∀l∈m.funcs,wF l≤2097152:=fun l hl=>by have:=Y7 (wt:=wF) hl;omega
 have hP:∀l∈m.procs,wP l≤2097152:=fun l hl=>by have:=Y7 (wt:=wP) hl;omega
 have hn:=Tn m.funcs ⟨0,0,false⟩ (by omega)
 exact⟨⟨by omega,by omega,fun p hp=>by have:=Y7 (wt:=wS) hp;simp only[wS]at this;omega,by omega,fun p hp=>by have:=Y7 (wt:=wV) hp;simp only[wV]at this;omega,by omega,
  fun p hp=>by have:=Y7 (wt:=HG) hp;simp only[HG]at this;omega,by omega,fun f hf=>(FT f (hF f hf)).1,by simp only at hn;omega,by omega,fun p hp=>(Fu p (hP p hp)).1⟩,
  ⟨by omega,by omega,by omega,by omega,fun f hf=>(FT f (hF f hf)).2,by omega,fun p hp=>(Fu p (hP p hp)).2⟩⟩
theorem Oy {P:Program}{W:World}{n:String}{cs:Array Value}{g:Nat}(hg:P.globalNamed n=some g)(h:W.var? P n=some cs):∃el fr,W.heap[g]? =some (.cells cs el fr):=by
 unfold World.var? at h
 rw[hg]at h
 simp only[Option.bind_some]at h
 split at h
 ·rename_i c el fr hc
  simp only[cA]at h;subst h
  exact⟨el,fr,hc⟩
 ·cases h
theorem On {H:Type}{enc:TypeId×Value→H}{P:Program}{w:World}{base:Nat}{sp:Nat→Bool}{held:Bool}{fuel:Nat}{t:TypeId}{ms:Array (String×TypeId)}{cs:List Value}{name:String}{d:DataW H}{p:List MemPlace}
 (ht:P.underlying t=some (.interface ms))(h:DataW.trod enc P w base sp held fuel t cs=some (.iface name d,p)):∃u v,cs=[.iface u v]:=by
 cases fuel with
 |zero=>simp [DataW.trod]at h
 |succ fuel=>
  unfold DataW.trod at h
  rw[ht]at h
  split at h <;> first|exact⟨_,_,rfl⟩|simp_all
theorem g1:Tryz.prog.globalNamed "internal/strconv.uint64pow10" =some 1:=by kernel_rfl
theorem g4:Tryz.prog.globalNamed "strconv.ErrSyntax" =some 4:=by kernel_rfl
theorem g5:Tryz.prog.globalNamed "strconv.ErrRange" =some 5:=by kernel_rfl
theorem t1:(Tryz.prog.globals[1]?).map (·.type)=some 261:=by kernel_rfl
theorem t4:(Tryz.prog.globals[4]?).map (·.type)=some 104:=by kernel_rfl
theorem t5:(Tryz.prog.globals[5]?).map (·.type)=some 104:=by kernel_rfl
theorem c261:Tryz.prog.cellsOf 261=20:=by kernel_rfl
theorem c235:Tryz.prog.cellsOf 235=1:=by kernel_rfl
abbrev LA:List (String×DataW Unit):=[("math/bits.deBruijn32tab",Rows.laid_math_bits_deBruijn32tab),("math/bits.deBruijn64tab",Rows.laid_math_bits_deBruijn64tab),("internal/strconv.uint64pow10",Rows.laid_internal_strconv_uint64pow10),("strconv.ErrRange",Rows.laid_strconv_ErrRange),("strconv.ErrSyntax",Rows.laid_strconv_ErrSyntax)]
theorem Rq {W:World}(h:laidMetH Tryz.prog LA W):
 (∃el fr,W.heap[1]? =some (.cells (Lib.pow10Tab.map fun z=>Value.int .u64 z).toArray el fr))∧(∃u v el fr,W.heap[4]? =some (.cells #[.iface u v] el fr))∧(∃u v el fr,W.heap[5]? =some (.cells #[.iface u v] el fr)):=by
 obtain⟨ps,⟨_,_,_,_,_,_,_,_,_,_,⟨_,_,_,_,_,_,_,_,_,_,⟨ga,ta,ca,fa,pa,qa,hga,hta,hva,hda,⟨gb,tb,cb,fb,pb,qb,hgb,htb,hvb,hdb,⟨gc,tc,cc,fc,pc,qc,hgc,htc,hvc,hdc,_,_⟩,_⟩,_⟩,_⟩,_⟩,_⟩:=h
 obtain rfl:=lE (g1.symm.trans hga)
 obtain rfl:=lE (g5.symm.trans hgb)
 obtain rfl:=lE (g4.symm.trans hgc)
 obtain rfl:=lE (t1.symm.trans hta)
 obtain rfl:=lE (t5.symm.trans htb)
 obtain rfl:=lE (t4.symm.trans htc)
 refine⟨?_,?_,?_⟩
 ·obtain⟨el,fr,hh⟩:=Oy hga hva
  have:ca.toList=Lib.pow10Tab.map fun z=>Value.int .u64 z:=Lib.cells_of_tab (zs:=Lib.pow10Tab) Tryz.underlying261 Tryz.underlying235 c235 c261 hda
  exact⟨el,fr,by rw[hh,←this]⟩
 ·obtain⟨el,fr,hh⟩:=Oy hgc hvc
  obtain⟨u,v,hc⟩:=On Tryz.underlying104 hdc
  exact⟨u,v,el,fr,by rw[hh,←hc]⟩
 ·obtain⟨el,fr,hh⟩:=Oy hgb hvb
  obtain⟨u,v,hc⟩:=On Tryz.underlying104 hdb
  exact⟨u,v,el,fr,by rw[hh,←hc]⟩
theorem PI {W:World}(h:laidMetH Tryz.prog LA W):∃G,Gl G∧Rel G (κW W) (fun _=>none) W:=by
 obtain⟨⟨el1,fr1,h1⟩,⟨u4,v4,el4,fr4,h4⟩,u5,v5,el5,fr5,h5⟩:=Rq h
 refine⟨fun g=>if g=1 then some (Lib.pow10Tab.map fun z=>.raw (.int .u64 z))else if g=4 then some [.iface u4 (.raw v4)]else if g=5 then some [.iface u5 (.raw v5)]else none,⟨⟨u4,.raw v4,rfl⟩,⟨u5,.raw v5,rfl⟩,rfl⟩,?_⟩
 have hT:∀b,¬Vc (κW W) (fun _=>none) W b:=fun b ⟨id,o,x,e1,_⟩=>by cases e1
 have ifc:∀{g:Nat} {u v el fr},W.heap[g]? =some (.cells #[.iface u v] el fr)→Zm (κW W) g [.iface u (.raw v)] 0:=fun{g u v el fr} hh=>by
  simp only[Zm]
  exact⟨⟨.iface u v,by simp [κW,World.cell?,hh],by simp [Qd]⟩,trivial⟩
 have pow:Zm (κW W) 1 (Lib.pow10Tab.map fun z=>.raw (.int .u64 z)) 0:=by
  refine Tr (us:=Lib.pow10Tab.map fun z=>Value.int .u64 z) ?_ fun j hj=> ?_
  ·generalize Lib.pow10Tab=l
   induction l with
   |nil=>simp [Qi]
   |cons z l ih=>simp only[cJ,Qi];exact⟨_,_,rfl,by simp [Qd],ih⟩
  ·simp [World.cell?,h1]
 exact{
  imm:=fun b i v hv=>hv
  obj:=fun id o ho=>by cases ho
  inj:=fun id id' o o' x x' k ho=>by cases ho
  fin:=⟨0,fun _ _=>rfl⟩
  glob:=fun g cs hg=>by
   split at hg
   ·rename_i e;subst e;cases hg;exact pow
   ·split at hg
    ·rename_i e;subst e;cases hg;exact ifc h4
    ·split at hg
     ·rename_i e;subst e;cases hg;exact ifc h5
     ·cases hg
  gsz:=fun g cs hg=>by
   refine⟨?_,hT g⟩
   split at hg
   ·rename_i e;subst e;cases hg;exact⟨_,_,_,h1,by simp⟩
   ·split at hg
    ·rename_i e;subst e;cases hg;exact⟨_,_,_,h4,rfl⟩
    ·split at hg
     ·rename_i e;subst e;cases hg;exact⟨_,_,_,h5,rfl⟩
     ·cases hg
  typ:=fun id cs b e E ho=>by cases ho
  tyq:=fun id b e E ho=>by cases ho}
open Go.ChangeShapes Go.WideShapes Go.ChangeAt Go.RowKit
theorem GS:laidOutB Tryz.prog=true:=by kernel_rfl
theorem DY:Tryz.prog.readableRec 29=true:=by kernel_rfl
theorem CS:29<Tryz.prog.types.size:=fE (by kernel_rfl)
theorem So {κ κ':Kn}{A':Q2}{W W':World}(h:Step κ (fun _=>none) W κ' A' W'):∀b,b<W.heap.size→W'.heap[b]? =W.heap[b]? :=fun b hb=>h.keep b hb fun⟨id,o,x,e1,_⟩=>by cases e1
theorem NQ {H:Type}{enc:TypeId×Value→H}{W W':World}{v:Value}{d:DataW H}{ps:List MemPlace}{sp:Nat→Bool}(hs:∀b,b<W.heap.size→W'.heap[b]? =W.heap[b]?)
 (h:DataW.Trod enc Tryz.prog W 0 (fun _=>true) true 29 v d ps)(hlt:∀x∈ps,x.block<W.heap.size)(hsp:∀x∈ps,sp x.block=true):DataW.Trod enc Tryz.prog W' 0 sp true 29 v d ps:=
 WideElems.Trod_stays GS DY CS h (fun x hx=>by
  have:=hs x.block (hlt x hx)
  cases x with
  |cell b off=>simp only[MemPlace.block]at this;simp only[World.sameAt,World.cell?,this]
  |map b=>exact this) hsp
theorem Rm {W W':World}{may:MemPlace→Prop}(hs:∀b,b<W.heap.size→W'.heap[b]? =W.heap[b]?)(ho:W'.os=W.os)(hp:W'.output=W.output):W.keptBut W' may:=by
 refine⟨ho,hp,fun i hi=> ?_⟩
 rw[hs i hi]
 cases W.heap[i]? with
 |none=>rfl
 |some o=>
  cases o with
  |cells c t fr=>exact⟨rfl,rfl,rfl,fun _ _=>rfl⟩
  |map es clock=>exact .inr ⟨rfl,rfl⟩
  |_=>rfl
theorem P8 {W W':World}(hs:∀b,b<W.heap.size→W'.heap[b]? =W.heap[b]?){a:Addr}(ha:a.block<W.heap.size):W'.frozen? a=W.frozen? a:=by
 simp only[World.frozen?,hs _ ha]
section
variable {H:Type}{enc:TypeId×Value→H}
set_option maxRecDepth 100000 in
theorem SH {f:Go.Func}{s:ChangeSpec}{W W':World}{args:Array Value}{ds:List (DataW H)}{before:List MemPlace}(hvars:s.vars=[])(hrt:f.resultTypes=#[4])(hfn:(s.fn H (ds++[])).results=[.lit (.bool true)]∧(s.fn H (ds++[])).args=ds∧(s.fn H (ds++[])).vars=[])
 (hs:∀b,b<W.heap.size→W'.heap[b]? =W.heap[b]?)(ho:W'.os=W.os)(hp:W'.output=W.output)
 (hW:DataW.Whole enc Tryz.prog f.params.toList s.vars false W args.toList ds [] before)
 (hargs:∀sp:Nat→Bool,(∀p∈before,sp p.block=true)→DataW.TrodAll enc Tryz.prog W' 0 sp true f.params.toList args.toList ds before):
 s.post enc Tryz.prog f false true false false W args (.bool true) W':=by
 have hlt:=hW.lt
 have hold:∀p∈before,(fun b=>decide (b<W.heap.size)) p.block=true:=fun p hp=>by simpa using hlt p hp
 have hv:∀sp:Nat→Bool,DataW.TrodVars enc Tryz.prog W' sp s.vars (s.fn H (ds++[])).vars []:=fun sp=>by rw[hvars,hfn.2.2];rfl
 have hr:∀(b:Nat) (sp:Nat→Bool) (hd:Bool),DataW.TrodAll enc Tryz.prog W' b sp hd f.resultTypes.toList ((Value.bool true).resultList f.resultTypes.size) (s.fn H (ds++[])).results []:=fun b sp hd=>by
  rw[hfn.1,hrt]
  exact trodAll_cons_mk (shut_bool Tryz.underlying4 _) trodAll_mk0
 have ha:∀sp:Nat→Bool,(∀p∈before,sp p.block=true)→DataW.TrodAll enc Tryz.prog W' 0 sp true f.params.toList args.toList (s.fn H (ds++[])).args before:=fun sp h=>by rw[hfn.2.1];exact hargs sp h
 have hok1:Value.okWide Tryz.prog W' .any 0 4 (.bool true):=okWide_bool_mk Tryz.underlying4 true
 have hok:=ok_one (P:=Tryz.prog) (W':=W') (f:=f) (v:=.bool true) (t:=4) hrt rfl hok1
 have hW0:=hW
 obtain⟨_,_,_,_,_,hz,_⟩:=hW0
 refine⟨ds,[],before,[],before,[],hW,hr _ _ _,ha _ hold,hv _,Rm hs ho hp,fun _=>⟨hok,(s.fn H (ds++[])).results++(s.fn H (ds++[])).args,(s.fn H (ds++[])).vars,([]++before)++[],⟨[]++before,[],trodAll_append (ha _ (fun _ _=>rfl)) (hr _ _ _),hv _,rfl,fun b off hb=> ?_,fun h=>by cases h⟩,fun p hp _=>by simpa using hp⟩⟩
 have hb:MemPlace.cell b off∈before:=by simpa using hb
 have:=hlt _ hb
 rw[P8 hs this]
 exact hz b off hb
end
end Go.Proofs.YtcbjbgaefighcaaGreatDoor
