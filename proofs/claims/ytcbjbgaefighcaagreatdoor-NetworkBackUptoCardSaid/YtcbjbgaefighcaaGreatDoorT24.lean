/- Part 24 of the proof. -/
import Derived.Test.YtcbjbgaefighcaaGreatDoorT0
import Derived.Test.YtcbjbgaefighcaaGreatDoorT23
set_option linter.all false
namespace Go.Proofs.YtcbjbgaefighcaaGreatDoor
open Go Go.Ax Go.Proofs
def Hl (x:Exp):Prop:=VS x∧(Z8 x).nodes<2^61
def Iz (x:Edge):Prop:=x.src.length<2^60∧x.dst.length<2^60∧x.tests.length<2^60∧(∀t∈x.tests,t.clock.length<2^60)∧Hl x.cond∧x.chan.length<2^60∧x.sets.length<2^60∧(∀a∈x.sets,a.name.length<2^60∧Hl a.val)∧
 x.clears.length<2^60∧(∀c∈x.clears,c.clock.length<2^60)
theorem HT {x:Exp}:decide (Yc x=2)= !(ZC x):=by
 unfold Yc;cases ZC x <;> simp;split <;> simp
theorem O0 {x:Exp}:decide (Yc x=3)=(ZC x&& !(Zm x)):=by
 unfold Yc;cases ZC x <;> cases Zm x <;> simp
theorem vL {a b c d:Bool}(h:a=c)(k:b=d):Zc a b=Zc c d:=by rw[h,k]
def SU (x:Edge):Bool:= !(Y2 x)
def K0 (x:Edge):Bool:=decide (16<x.tests.length)||(!(isNone x.cond)&&decide (Yc x.cond=3))||decide (16<x.sets.length)||x.sets.any (fun a=>decide (Yc a.val=3))||decide (16<x.clears.length)
section
variable (G:Nat→Option (List AV))
theorem k61 {A:Q3}{p:Nat}{w m:Bool}(x:Edge)(hx:Iz x)(hp:A p=some (Zc w m)):
 Qu Tryz.prog G 61 [.ptr p 0,.agg x.cells] A ZK (A.upd p (some (Zc (w||SU x) (m||K0 x)))):=by
 obtain⟨src,dst,ts,co,ch,sn,ss,cs,cst,kd⟩:=x
 obtain⟨ck,cn,ci,cxs⟩:=co
 obtain⟨y1,y2,y3,y4,y5,y6,y7,y8,y9,y10⟩:=hx
 simp only at y1 y2 y3 y4 y5 y6 y7 y8 y9 y10
 refine Q4 l61 (fE rfl) ?_
 unfold C61
 refine Qd (fun env ds B=>∃c,env 0=.ptr p 0∧env 3=.ptr c 0∧ds=[]∧QK p A B∧B p=some (Zc w m)∧p≠c∧B c=some (.cells [.str src,.str dst,Qy 4 Test.cells ts,i64 ck,.str cn,i64 ci,.slice 4 cxs.length (Exp.cellsL cxs) none,.str ch,bo sn,Qy 5 Assign.cells ss,Qy 2 Clear.cells cs,i64 cst,i64 kd])) ?_ ?_
 ·simp only[Edge.cells,Exp.cells,Q1,seval]
  intro c hc
  have hpc:=Q6 hp hc
  exact⟨c,rfl,(by repeat first|exact QK.refl _ _|refine QK.at ?_ _|refine QK.set ?_ (by assumption) (by simp)),by rw[Q5 hpc,hp],hpc,(by exact Q0 ..)⟩
 rintro env ds B ⟨c,e0,e3,rfl,hov,hB,hpc,hcc⟩
 refine Qd (fun env ds B=>env 0=.ptr p 0∧env 3=.ptr c 0∧ds=[]∧QK p A B∧B p=some (Zc (w||[src,dst].any fun s=> !Qe s) (m))∧B c=some (.cells [.str src,.str dst,Qy 4 Test.cells ts,i64 ck,.str cn,i64 ci,.slice 4 cxs.length (Exp.cellsL cxs) none,.str ch,bo sn,Qy 5 Assign.cells ss,Qy 2 Clear.cells cs,i64 cst,i64 kd])) ?_ ?_
 ·simp only[e0,e3,hcc,Q1,seval]
  refine QY (cs:=[.str src,.str dst]) (by rfl) fun t ht=> ?_
  have hpt:=Q6 hB ht
  have hct:=Q6 hcc ht
  simp only[e0,Q1,seval]
  refine Q2 (Th G (l:=[src,dst]) rfl rfl (by simp) (by simp only[dT,dL,or_false];rintro s (rfl|rfl) <;> omega) ((Qa B t (some .tip) hpt).trans hB)) ?_
  simp only[e0,e3,Q1,seval]
  exact⟨(hov.tip hpt.symm ht).at _,by rw[Q5 hpc.symm,Q5 hct];exact hcc⟩
 rintro env ds B ⟨e0,e3,rfl,hov,hB,hcc⟩
 refine Qd (fun env ds B=>env 0=.ptr p 0∧env 3=.ptr c 0∧ds=[]∧QK p A B∧B p=some (Zc ((w||[src,dst].any fun s=> !Qe s)|| !(ts.all Vp)) (m||decide (16<ts.length)))∧B c=some (.cells [.str src,.str dst,Qy 4 Test.cells ts,i64 ck,.str cn,i64 ci,.slice 4 cxs.length (Exp.cellsL cxs) none,.str ch,bo sn,Qy 5 Assign.cells ss,Qy 2 Clear.cells cs,i64 cst,i64 kd])) ?_ ?_
 ·simp only[e0,e3,hcc,Qy,Q1,seval]
  refine Q2 (k60 G rfl rfl (by omega) (fun x hx=>by have:=y4 x hx;omega) hB) ?_
  simp only[e0,e3,Q1,seval]
  exact⟨hov.at _,by rw[Q5 hpc.symm];exact hcc⟩
 rintro env ds B ⟨e0,e3,rfl,hov,hB,hcc⟩
 generalize hw0:((w||[src,dst].any fun s=> !Qe s)|| !(ts.all Vp))=w0 at hB
 generalize hm0:(m||decide (16<ts.length))=m0 at hB
 have hce:Zw (.mk ck cn ci cxs)=.agg [i64 ck,.str cn,i64 ci,.slice 4 cxs.length (Exp.cellsL cxs) none]:=rfl
 refine Qd (fun env ds B=>env 0=.ptr p 0∧env 3=.ptr c 0∧ds=[]∧QK p A B∧B p=some (Zc (w0||(!(isNone (.mk ck cn ci cxs))&&decide (Yc (.mk ck cn ci cxs)=2))) (m0||(!(isNone (.mk ck cn ci cxs))&&decide (Yc (.mk ck cn ci cxs)=3))))∧B c=some (.cells [.str src,.str dst,Qy 4 Test.cells ts,i64 ck,.str cn,i64 ci,.slice 4 cxs.length (Exp.cellsL cxs) none,.str ch,bo sn,Qy 5 Assign.cells ss,Qy 2 Clear.cells cs,i64 cst,i64 kd])) ?_ ?_
 ·simp only[e0,e3,hcc,Q1,seval]
  rw[←hce]
  refine Q2 (CW G _) ?_
  cases hnn:isNone (.mk ck cn ci cxs)with
  |true=>
   simp only[e0,e3,Q1,seval]
   exact⟨hov,by rw[hB];simp,hcc⟩
  |false=>
   simp only[e0,e3,hcc,Q1,seval]
   rw[←hce]
   refine Q2 (GO G _ y5.1 y5.2) ?_
   simp only[e0,e3,Q1,seval]
   refine Q2 (k58 G hB) ?_
   simp only[e0,e3,Q1,seval]
   exact⟨hov.at _,by simp,by rw[Q5 hpc.symm];exact hcc⟩
 rintro env ds B ⟨e0,e3,rfl,hov,hB,hcc⟩
 generalize hw1:(w0||(!(isNone (.mk ck cn ci cxs))&&decide (Yc (.mk ck cn ci cxs)=2)))=w1 at hB
 generalize hm1:(m0||(!(isNone (.mk ck cn ci cxs))&&decide (Yc (.mk ck cn ci cxs)=3)))=m1 at hB
 refine Qd (fun env ds B=>env 0=.ptr p 0∧env 3=.ptr c 0∧ds=[]∧QK p A B∧B p=some (Zc (w1||(!ch.isEmpty&& !(Qe ch))) m1)∧B c=some (.cells [.str src,.str dst,Qy 4 Test.cells ts,i64 ck,.str cn,i64 ci,.slice 4 cxs.length (Exp.cellsL cxs) none,.str ch,bo sn,Qy 5 Assign.cells ss,Qy 2 Clear.cells cs,i64 cst,i64 kd])) ?_ ?_
 ·simp only[e0,e3,hcc,Q1,seval]
  refine⟨fun hch=> ?_,fun hch=> ?_⟩
  ·exact⟨hov,by rw[hB,hch];simp⟩
  ·refine QY (cs:=[.str ch]) (by rfl) fun t ht=> ?_
   have hpt:=Q6 hB ht
   have hct:=Q6 hcc ht
   simp only[e0,Q1,seval]
   refine Q2 (Th G (l:=[ch]) rfl rfl (by simp) (by simpa using Nat.lt_trans y6 (by decide)) ((Qa B t (some .tip) hpt).trans hB)) ?_
   simp only[e0,e3,Q1,seval]
   refine⟨(hov.tip hpt.symm ht).at _,?_,by rw[Q5 hpc.symm,Q5 hct];exact hcc⟩
   cases ch with
   |nil=>exact absurd rfl hch
   |cons a b=>simp
 rintro env ds B ⟨e0,e3,rfl,hov,hB,hcc⟩
 generalize hw2:(w1||(!ch.isEmpty&& !(Qe ch)))=w2 at hB
 refine Qd (fun env ds B=>env 0=.ptr p 0∧env 3=.ptr c 0∧ds=[]∧QK p A B∧B p=some (Zc (w2||(ch.isEmpty&&sn)) m1)∧B c=some (.cells [.str src,.str dst,Qy 4 Test.cells ts,i64 ck,.str cn,i64 ci,.slice 4 cxs.length (Exp.cellsL cxs) none,.str ch,bo sn,Qy 5 Assign.cells ss,Qy 2 Clear.cells cs,i64 cst,i64 kd])) ?_ ?_
 ·unfold Zc at hB
  have hov':=hov.at (some (Zc (w2||(ch.isEmpty&&sn)) m1))
  cases w2 with
  |true=>
   simp only[e0,e3,hB,hcc,Q5 hpc.symm,Q1,seval]
   exact⟨hov',rfl⟩
  |false=>
   cases ch with
   |nil=>
    simp only[e0,e3,hB,hcc,Q5 hpc.symm,Q1,seval]
    exact⟨hov.at _,by simp [Zc]⟩
   |cons a b=>
    simp only[e0,e3,hB,hcc,Q5 hpc.symm,Q1,seval]
    exact⟨hov.at _,by simp [Zc]⟩
 rintro env ds B ⟨e0,e3,rfl,hov,hB,hcc⟩
 generalize hw3:(w2||(ch.isEmpty&&sn))=w3 at hB
 refine Qd (fun env ds B=>env 0=.ptr p 0∧env 3=.ptr c 0∧ds=[]∧QK p A B∧B p=some (Zc w3 (m1||decide (16<ss.length)))∧B c=some (.cells [.str src,.str dst,Qy 4 Test.cells ts,i64 ck,.str cn,i64 ci,.slice 4 cxs.length (Exp.cellsL cxs) none,.str ch,bo sn,Qy 5 Assign.cells ss,Qy 2 Clear.cells cs,i64 cst,i64 kd])) ?_ ?_
 ·simp only[e0,e3,hcc,Qy,Q1,seval]
  refine Q2 (k56 G hB) ?_
  rw[show decide ((16:Int)<(ss.length:Int))=decide (16<ss.length)from decide_eq_decide.2 (by omega)]
  simp only[e0,e3,Q1,seval]
  exact⟨hov.at _,by rw[Q5 hpc.symm];exact hcc⟩
 rintro env ds B ⟨e0,e3,rfl,hov,hB,hcc⟩
 generalize hm2:(m1||decide (16<ss.length))=m2 at hB
 refine Qd (fun env ds B=>env 0=.ptr p 0∧env 3=.ptr c 0∧ds=[]∧QK p A B∧B p=some (Zc (w3||ss.any fun a=> !(Qe a.name&&ZC a.val)) (m2||ss.any fun a=>decide (Yc a.val=3)))∧B c=some (.cells [.str src,.str dst,Qy 4 Test.cells ts,i64 ck,.str cn,i64 ci,.slice 4 cxs.length (Exp.cellsL cxs) none,.str ch,bo sn,Qy 5 Assign.cells ss,Qy 2 Clear.cells cs,i64 cst,i64 kd])) ?_ ?_
 ·simp only[e0,e3,hcc,Qy,Q1,seval]
  refine Qv (fun k env ds B=>∃pre post,ss=pre++post∧k=post.length∧env 0=.ptr p 0∧env 3=.ptr c 0∧env 58=.slice 5 ss.length (ss.flatMap Assign.cells) none∧env 59=i64 ss.length∧env 60=i64 pre.length∧ds=[]∧QK p A B∧
   B p=some (Zc (w3||pre.any fun a=> !(Qe a.name&&ZC a.val)) (m2||pre.any fun a=>decide (Yc a.val=3)))∧B c=some (.cells [.str src,.str dst,Qy 4 Test.cells ts,i64 ck,.str cn,i64 ci,.slice 4 cxs.length (Exp.cellsL cxs) none,.str ch,bo sn,Qy 5 Assign.cells ss,Qy 2 Clear.cells cs,i64 cst,i64 kd])) ss.length
   ⟨[],ss,rfl,rfl,e0,e3,rfl,rfl,rfl,rfl,hov,by rw[hB];simp,hcc⟩ ?_
  rintro k env ds B ⟨pre,post,hpp,rfl,e0,e3,e58,e59,e60,rfl,hov,hB,hcc⟩
  have hl2:(pre.length:Int)+post.length=ss.length:=by rw[hpp];simp
  cases post with
  |nil=>
   have hlt:¬((pre.length:Int)<ss.length):=by simp at hl2;omega
   have hpl:ss=pre:=by rw[hpp];simp
   simp only[e0,e3,e58,e59,e60,Q1,seval]
   refine⟨fun h=>absurd h hlt,fun _=>⟨hov,by rw[hB,hpl],by simpa only[Qy]using hcc⟩⟩
  |cons x post=>
   have hlt:((pre.length:Int)<ss.length):=by simp at hl2;omega
   have e2:IntKind.i64.wrap ((pre.length:Int)+1)=((pre++[x]).length:Nat):=by rw[Qg (by omega) (by omega)];simp
   obtain⟨z1,z2⟩:=y8 x (by rw[hpp];simp)
   simp only[e0,e3,e58,e59,e60,Q1,seval]
   refine⟨fun _=>⟨hlt,?_⟩,fun h=>absurd hlt h⟩
   have hd:(ss.flatMap Assign.cells).drop (pre.length*5)=Assign.cells x++post.flatMap Assign.cells:=by rw[hpp,Zg Assign.cells_len];simp
   rw[hd,dM (Assign.cells_len x)]
   refine⟨by simp [Assign.cells_len],?_⟩
   intro d hd2
   obtain⟨xn,xk,xm,xi,xs⟩:=x
   simp only at z1 z2
   have hce2:Zw (.mk xk xm xi xs)=.agg [i64 xk,.str xm,i64 xi,.slice 4 xs.length (Exp.cellsL xs) none]:=rfl
   have hpd:=Q6 hB hd2
   have hcd:=Q6 hcc hd2
   have hov:=hov.set (hov.gone hpd.symm hd2) (o:=some (.cells [.str xn,i64 xk,.str xm,i64 xi,.slice 4 xs.length (Exp.cellsL xs) none])) (by simp)
   have hcc:=(Qa B d (some (.cells [.str xn,i64 xk,.str xm,i64 xi,.slice 4 xs.length (Exp.cellsL xs) none])) hcd).trans hcc
   have hB:=(Qa B d (some (.cells [.str xn,i64 xk,.str xm,i64 xi,.slice 4 xs.length (Exp.cellsL xs) none])) hpd).trans hB
   have hdd:(B.upd d (some (.cells [.str xn,i64 xk,.str xm,i64 xi,.slice 4 xs.length (Exp.cellsL xs) none]))) d=some (.cells [.str xn,i64 xk,.str xm,i64 xi,.slice 4 xs.length (Exp.cellsL xs) none]):=Q0 ..
   simp only[e0,Assign.cells,Exp.cells,Q1,seval]
   generalize B.upd d (some (.cells [.str xn,i64 xk,.str xm,i64 xi,.slice 4 xs.length (Exp.cellsL xs) none]))=B at*
   refine QY (cs:=[.str xn]) (Jf _ _ rfl (by decide)) fun t1 ht1=> ?_
   have hpt:=Q6 hB ht1
   have hov:=hov.tip hpt.symm ht1
   have hcc:=(Qa B t1 (some .tip) (Q6 hcc ht1)).trans hcc
   have hdd:=(Qa B t1 (some .tip) (Q6 hdd ht1)).trans hdd
   have hB:=(Qa B t1 (some .tip) hpt).trans hB
   generalize B.upd t1 (some .tip)=B at*
   simp only[e0,Q1,seval]
   refine Q2 (Th G (l:=[xn]) rfl rfl (by simp) (by simpa using Nat.lt_trans z1 (by decide)) hB) ?_
   simp only[e0,Q5 hpd.symm,hdd,Q1,seval]
   rw[←hce2]
   refine Q2 (GO G _ z2.1 z2.2) ?_
   simp only[e0,Q1,seval]
   refine Q2 (k58 G (by exact Q0 ..)) ?_
   simp only[e0,e3,e58,e59,e60,e2,Q1,seval]
   refine⟨post.length,by simp,pre++[⟨xn,.mk xk xm xi xs⟩],post,by simp [hpp],rfl,rfl,hov.at _,?_,by rw[Q5 hpc.symm];exact hcc⟩
   rw[HT]
   simp [dK,HT,O0,lB]
 rintro env ds B ⟨e0,e3,rfl,hov,hB,hcc⟩
 generalize hw4:(w3||ss.any fun a=> !(Qe a.name&&ZC a.val))=w4 at hB
 generalize hm3:(m2||ss.any fun a=>decide (Yc a.val=3))=m3 at hB
 refine Qd (fun env ds B=>env 0=.ptr p 0∧env 3=.ptr c 0∧ds=[]∧QK p A B∧B p=some (Zc w4 (m3||decide (16<cs.length)))∧B c=some (.cells [.str src,.str dst,Qy 4 Test.cells ts,i64 ck,.str cn,i64 ci,.slice 4 cxs.length (Exp.cellsL cxs) none,.str ch,bo sn,Qy 5 Assign.cells ss,Qy 2 Clear.cells cs,i64 cst,i64 kd])) ?_ ?_
 ·simp only[e0,e3,hcc,Qy,Q1,seval]
  refine Q2 (k56 G hB) ?_
  rw[show decide ((16:Int)<(cs.length:Int))=decide (16<cs.length)from decide_eq_decide.2 (by omega)]
  simp only[e0,e3,Q1,seval]
  exact⟨hov.at _,by rw[Q5 hpc.symm];exact hcc⟩
 rintro env ds B ⟨e0,e3,rfl,hov,hB,hcc⟩
 generalize hm4:(m3||decide (16<cs.length))=m4 at hB
 refine Qd (fun env ds B=>env 0=.ptr p 0∧env 3=.ptr c 0∧ds=[]∧QK p A B∧B p=some (Zc (w4||cs.any fun a=> !(Qe a.clock&&ZJ a.tv)) m4)∧B c=some (.cells [.str src,.str dst,Qy 4 Test.cells ts,i64 ck,.str cn,i64 ci,.slice 4 cxs.length (Exp.cellsL cxs) none,.str ch,bo sn,Qy 5 Assign.cells ss,Qy 2 Clear.cells cs,i64 cst,i64 kd])) ?_ ?_
 ·simp only[e0,e3,hcc,Qy,Q1,seval]
  refine Qv (fun k env ds B=>∃pre post,cs=pre++post∧k=post.length∧env 0=.ptr p 0∧env 3=.ptr c 0∧env 81=.slice 2 cs.length (cs.flatMap Clear.cells) none∧env 82=i64 cs.length∧env 83=i64 pre.length∧ds=[]∧QK p A B∧
   B p=some (Zc (w4||pre.any fun a=> !(Qe a.clock&&ZJ a.tv)) m4)∧B c=some (.cells [.str src,.str dst,Qy 4 Test.cells ts,i64 ck,.str cn,i64 ci,.slice 4 cxs.length (Exp.cellsL cxs) none,.str ch,bo sn,Qy 5 Assign.cells ss,Qy 2 Clear.cells cs,i64 cst,i64 kd])) cs.length
   ⟨[],cs,rfl,rfl,e0,e3,rfl,rfl,rfl,rfl,hov,by rw[hB];simp,hcc⟩ ?_
  rintro k env ds B ⟨pre,post,hpp,rfl,e0,e3,e81,e82,e83,rfl,hov,hB,hcc⟩
  have hl2:(pre.length:Int)+post.length=cs.length:=by rw[hpp];simp
  cases post with
  |nil=>
   have hlt:¬((pre.length:Int)<cs.length):=by simp at hl2;omega
   have hpl:cs=pre:=by rw[hpp];simp
   simp only[e0,e3,e81,e82,e83,Q1,seval]
   refine⟨fun h=>absurd h hlt,fun _=>⟨hov,by rw[hB,hpl],by simpa only[Qy]using hcc⟩⟩
  |cons x post=>
   have hlt:((pre.length:Int)<cs.length):=by simp at hl2;omega
   have e2:IntKind.i64.wrap ((pre.length:Int)+1)=((pre++[x]).length:Nat):=by rw[Qg (by omega) (by omega)];simp
   have z1:=y10 x (by rw[hpp];simp)
   simp only[e0,e3,e81,e82,e83,Q1,seval]
   refine⟨fun _=>⟨hlt,?_⟩,fun h=>absurd hlt h⟩
   have hd:(cs.flatMap Clear.cells).drop (pre.length*2)=Clear.cells x++post.flatMap Clear.cells:=by rw[hpp,Zg (sz:=2) (fun _=>rfl)];simp
   rw[hd,dM (show(Clear.cells x).length=2 from rfl)]
   refine⟨by simp [Clear.cells],?_⟩
   intro d hd2
   obtain⟨xn,xi⟩:=x
   simp only at z1
   have hpd:=Q6 hB hd2
   have hcd:=Q6 hcc hd2
   have hov:=hov.set (hov.gone hpd.symm hd2) (o:=some (.cells [.str xn,i64 xi])) (by simp)
   have hcc:=(Qa B d (some (.cells [.str xn,i64 xi])) hcd).trans hcc
   have hB:=(Qa B d (some (.cells [.str xn,i64 xi])) hpd).trans hB
   have hdd:(B.upd d (some (.cells [.str xn,i64 xi]))) d=some (.cells [.str xn,i64 xi]):=Q0 ..
   simp only[e0,Clear.cells,Q1,seval]
   generalize B.upd d (some (.cells [.str xn,i64 xi]))=B at*
   refine QY (cs:=[.str xn]) (Jf _ _ rfl (by decide)) fun t1 ht1=> ?_
   have hpt:=Q6 hB ht1
   have hov:=hov.tip hpt.symm ht1
   have hcc:=(Qa B t1 (some .tip) (Q6 hcc ht1)).trans hcc
   have hdd:=(Qa B t1 (some .tip) (Q6 hdd ht1)).trans hdd
   have hB:=(Qa B t1 (some .tip) hpt).trans hB
   generalize B.upd t1 (some .tip)=B at*
   simp only[e0,Q1,seval]
   refine Q2 (Th G (l:=[xn]) rfl rfl (by simp) (by simpa using Nat.lt_trans z1 (by decide)) hB) ?_
   simp only[e0,Q5 hpd.symm,hdd,Q1,seval]
   generalize hw5:((w4||pre.any fun a=> !(Qe a.clock&&ZJ a.tv))||[xn].any fun s=> !Qe s)=w5
   have hov:=hov.at (some (Zc w5 m4))
   have hcc:=(Qa B p (some (Zc w5 m4)) hpc.symm).trans hcc
   have hB:(B.upd p (some (Zc w5 m4))) p=some (Zc w5 m4):=Q0 ..
   generalize B.upd p (some (Zc w5 m4))=B at*
   refine QY (cs:=[i64 xi]) (Jf _ _ rfl (by decide)) fun t2 ht2=> ?_
   have hpt2:=Q6 hB ht2
   have hov:=hov.tip hpt2.symm ht2
   have hcc:=(Qa B t2 (some .tip) (Q6 hcc ht2)).trans hcc
   have hB:=(Qa B t2 (some .tip) hpt2).trans hB
   generalize B.upd t2 (some .tip)=B at*
   simp only[e0,Q1,seval]
   refine Q2 (k57 G (l:=[xi]) rfl rfl (by simp) hB) ?_
   simp only[e0,e3,e81,e82,e83,e2,Q1,seval]
   refine⟨post.length,by simp,pre++[⟨xn,xi⟩],post,by simp [hpp],rfl,rfl,hov.at _,?_,by rw[Q5 hpc.symm];exact hcc⟩
   subst hw5
   simp [dK,lB]
 rintro env ds B ⟨e0,e3,rfl,hov,hB,hcc⟩
 generalize hw5:(w4||cs.any fun a=> !(Qe a.clock&&ZJ a.tv))=w5 at hB
 simp only[e0,e3,hcc,Q1,seval]
 refine QY (cs:=[i64 cst,i64 kd]) (by rfl) fun t ht=> ?_
 have hpt:=Q6 hB ht
 have hov:=hov.tip hpt.symm ht
 have hB:=(Qa B t (some .tip) hpt).trans hB
 generalize B.upd t (some .tip)=B at*
 simp only[e0,Q1,seval]
 refine Q2 (k57 G (l:=[cst,kd]) rfl rfl (by simp) hB) ?_
 simp only[QQ,Q1,seval]
 refine Qx rfl (((hov.at _).wk (Q0 ..) (by simp [Zc])).trans (X4 ?_))
 subst hw5 hw4 hw3 hw2 hw1 hw0 hm4 hm3 hm2 hm1 hm0
 refine congrArg (fun x=>A.upd p (some x)) (vL ?_ ?_)
 ·simp only[SU,Y2]
  rw[HT]
  simp only[List.any_cons,List.any_nil,dG (p:=Vp)]
  have e1:(ss.any fun a=> !(Qe a.name&&ZC a.val))= !(ss.all fun a=>Qe a.name&&ZC a.val):=by rw[dG,Bool.not_not]
  have e2:(cs.any fun a=> !(Qe a.clock&&ZJ a.tv))= !(cs.all fun a=>Qe a.clock&&ZJ a.tv):=by rw[dG,Bool.not_not]
  rw[e1,e2]
  generalize Qe src=a1;generalize Qe dst=a2;generalize(ts.any fun x=> !Vp x)=a3;generalize isNone (.mk ck cn ci cxs)=a4;generalize ZC (.mk ck cn ci cxs)=a5
  generalize ch.isEmpty=a6;generalize Qe ch=a7;generalize(ss.all fun a=>Qe a.name&&ZC a.val)=a8;generalize(cs.all fun a=>Qe a.clock&&ZJ a.tv)=a9;generalize ZJ cst=a10;generalize ZJ kd=a11
  simp only[lB,Bool.not_or,Bool.not_not,cT,dK]
  rw[Bool.or_left_comm (!a6&& !a7)]
 ·simp only[K0,dK]
end
end Go.Proofs.YtcbjbgaefighcaaGreatDoor
