/- Part 23 of the proof. -/
import Derived.Test.YtcbjbgaefighcaaGreatDoorT0
import Derived.Test.YtcbjbgaefighcaaGreatDoorT22
set_option linter.all false
namespace Go.Proofs.YtcbjbgaefighcaaGreatDoor
open Go Go.Ax Go.Proofs
theorem X4 {A B:Q3}(h:A=B):U2 A B:=h▸U2.refl _
theorem Cl {k:IntKind}{a b:Int}:Qf .eql .num (.raw (.int k a)) (.raw (.int k b))=some (.raw (.bool (decide (a=b)))):=by
 simp only[Qf,if_true,Zb,cO]
 rfl
section
variable (G:Nat→Option (List AV))
theorem k129 (s:Bs)(A:Q3)(hs:s.length<2^62):Qu Tryz.prog G 129 [.str s] A (bo !(Qe s)) A:=by
 refine Q4 l129 (fE rfl) ?_
 simp only[qB,Q1,seval]
 refine Q2 (IA G s _ hs) ?_
 simp only[Q1,seval]
 exact Qx rfl (U2.refl _)
theorem k134 (s:Bs)(A:Q3)(hs:s.length<2^62):Qu Tryz.prog G 134 [.str s] A (bo !(Qe s)) A:=by
 refine Q4 l134 (fE rfl) ?_
 simp only[AX,Q1,seval]
 refine Q2 (IA G s _ hs) ?_
 simp only[Q1,seval]
 exact Qx rfl (U2.refl _)
theorem k133 (n:Int)(A:Q3):Qu Tryz.prog G 133 [i64 n] A (bo (ZJ n)) A:=by
 refine Q4 l133 (fE rfl) ?_
 simp only[AY,Q1,seval]
 refine⟨fun a=>⟨fun b=>Qx (by simp [ZJ,a,b]) (U2.refl _),fun b=>Qx (by simp [ZJ,a,b]) (U2.refl _)⟩,fun a=>Qx (by simp [ZJ,a]) (U2.refl _)⟩
theorem k132 (n:Int)(A:Q3):Qu Tryz.prog G 132 [i64 n] A (bo !(ZJ n)) A:=by
 refine Q4 l132 (fE rfl) ?_
 simp only[AZ,Q1,seval]
 refine Q2 (k133 G n _) ?_
 simp only[Q1,seval]
 exact Qx rfl (U2.refl _)
def Zc (w m:Bool):AObj:=.cells [bo w,bo m]
theorem Th {A:Q3}{p:Nat}{w m:Bool}{l:List Bs}{n:Nat}{cs:List AV}{t:Option Nat}(hn:n=l.length)(hcs:cs=l.flatMap fun s=>[.str s])(hl:l.length<2^62)(hs:∀s∈l,s.length<2^62)(hp:A p=some (Zc w m)):
 Qu Tryz.prog G 55 [.ptr p 0,.slice 1 n cs t] A ZK (A.upd p (some (Zc (w||l.any fun s=> !Qe s) m))):=by
 refine Q4 l55 (fE rfl) ?_
 unfold Zc at hp
 cases w with
 |true=>
  simp only[C55,hp,QQ,Q1,seval]
  exact Qx rfl (X4 (by simp [Zc]))
 |false=>
  simp only[C55,hp,Q1,seval]
  refine Q2 (CU G (v:=.str) (p:=fun s=> !Qe s) (fun _=>rfl) hn hcs hl fun x hx=>k129 G x _ (hs x hx)) ?_
  simp only[hp,QQ,Q1,seval]
  exact Qx rfl (X4 (by simp [Zc]))
theorem k56 {A:Q3}{p:Nat}{w m:Bool}{n k:Int}(hp:A p=some (Zc w m)):
 Qu Tryz.prog G 56 [.ptr p 0,i64 n,i64 k] A ZK (A.upd p (some (Zc w (m||decide (k<n))))):=by
 refine Q4 l56 (fE rfl) ?_
 unfold Zc at hp
 cases m with
 |true=>
  simp only[C56,hp,QQ,Q1,seval]
  exact Qx rfl (X4 (by simp [Zc]))
 |false=>
  simp only[C56,hp,QQ,Q1,seval]
  exact⟨fun h=>Qx rfl (X4 (by simp [Zc,h])),fun h=>Qx rfl (X4 (by simp [Zc,h]))⟩
theorem k58 {A:Q3}{p:Nat}{w m:Bool}{n:Int}(hp:A p=some (Zc w m)):
 Qu Tryz.prog G 58 [.ptr p 0,i64 n] A ZK (A.upd p (some (Zc (w||decide (n=2)) (m||decide (n=3))))):=by
 refine Q4 l58 (fE rfl) ?_
 unfold Zc at hp
 cases w <;> cases m
 all_goals simp only[C58,hp,QQ,QW,Cl,Q1,seval]
 all_goals exact Qx rfl (X4 (by simp [Zc]))
theorem k57 {A:Q3}{p:Nat}{w m:Bool}{l:List Int}{n:Nat}{cs:List AV}{t:Option Nat}(hn:n=l.length)(hcs:cs=l.flatMap fun s=>[i64 s])(hl:l.length<2^62)(hp:A p=some (Zc w m)):
 Qu Tryz.prog G 57 [.ptr p 0,.slice 1 n cs t] A ZK (A.upd p (some (Zc (w||l.any fun s=> !ZJ s) m))):=by
 refine Q4 l57 (fE rfl) ?_
 unfold Zc at hp
 cases w with
 |true=>
  simp only[C57,hp,QQ,Q1,seval]
  exact Qx rfl (X4 (by simp [Zc]))
 |false=>
  simp only[C57,hp,Q1,seval]
  refine Q2 (k131 G (v:=i64) (p:=fun s=> !ZJ s) (fun _=>rfl) hn hcs hl fun x hx=>k132 G x _) ?_
  simp only[hp,QQ,Q1,seval]
  exact Qx rfl (X4 (by simp [Zc]))
theorem CW {A:Q3}(x:Exp):Qu Tryz.prog G 112 [Zw x] A (bo (isNone x)) A:=by
 obtain⟨k,n,i,xs⟩:=x
 refine Q4 l112 (fE rfl) ?_
 simp only[qN,Zw,Exp.cells,Q1,seval]
 intro c hc
 have hO:Z7 A (A.upd c (some (.cells [i64 k,.str n,i64 i,.slice 4 xs.length (Exp.cellsL xs) none]))):=(Z7.refl A).set hc (by simp)
 refine⟨fun a=>⟨fun b=>⟨fun c=>⟨fun d=> ?_,fun d=> ?_⟩,fun c=> ?_⟩,fun b=> ?_⟩,fun a=> ?_⟩
 ·have:xs=[]:=fJ.1 (by omega)
  exact Qb (by simp [isNone,a,b,c,this]) hO
 ·have:xs≠[]:=fun e=>d (by simp [e])
  exact Qb (by simp [isNone,this]) hO
 ·exact Qb (by simp [isNone,c]) hO
 ·exact Qb (by simp [isNone,b]) hO
 ·exact Qb (by simp [isNone,a]) hO
theorem k60 {A:Q3}{p:Nat}{w m:Bool}{l:List Test}{n:Nat}{cs:List AV}{t:Option Nat}(hn:n=l.length)(hcs:cs=l.flatMap Test.cells)(hl:l.length<2^62)(hs:∀x∈l,x.clock.length<2^62)(hp:A p=some (Zc w m)):
 Qu Tryz.prog G 60 [.ptr p 0,.slice 4 n cs t] A ZK (A.upd p (some (Zc (w|| !(l.all Vp)) (m||decide (16<l.length))))):=by
 refine Q4 l60 (fE rfl) ?_
 subst hn hcs
 simp only[C60,Q1,seval]
 refine Q2 (k56 G hp) ?_
 simp only[Q1,seval]
 refine Qv (fun k env ds B=>∃pre post w',l=pre++post∧k=post.length∧env 0=.ptr p 0∧env 10=.slice 4 l.length (l.flatMap Test.cells) t∧env 11=i64 l.length∧env 12=i64 pre.length∧ds=[]∧QK p A B∧B p=some (Zc w' (m||decide (16<l.length)))∧(w|| !(l.all Vp))=(w'|| !(post.all Vp))) l.length
  ⟨[],l,w,rfl,rfl,rfl,rfl,rfl,rfl,rfl,(by repeat first|exact QK.refl _ _|refine QK.at ?_ _|refine QK.set ?_ (by assumption) (by simp)),by rw[Q0,show decide ((16:Int)<(l.length:Int))=decide (16<l.length)from decide_eq_decide.2 (by omega)],rfl⟩ ?_
 rintro k env ds B ⟨pre,post,w',hpp,rfl,e0,e10,e11,e12,rfl,hov,hB,hW⟩
 have hl2:(pre.length:Int)+post.length=l.length:=by rw[hpp];simp
 cases post with
 |nil=>
  have hlt:¬((pre.length:Int)<l.length):=by simp at hl2;omega
  simp only[e0,e10,e11,e12,Q1,seval]
  refine⟨fun h=>absurd h hlt,fun _=> ?_⟩
  rw[hW,lP,cM,cT]
  exact Qx rfl (hov.wk hB (by simp [Zc]))
 |cons x post=>
  have hlt:((pre.length:Int)<l.length):=by simp at hl2;omega
  have e2:IntKind.i64.wrap ((pre.length:Int)+1)=((pre++[x]).length:Nat):=by rw[Qg (by omega) (by omega)];simp
  simp only[e0,e10,e11,e12,Q1,seval]
  refine⟨fun _=>⟨hlt,?_⟩,fun h=>absurd hlt h⟩
  have hd:(l.flatMap Test.cells).drop (pre.length*4)=Test.cells x++post.flatMap Test.cells:=by rw[hpp,Zg (sz:=4) (fun _=>rfl)];simp
  rw[hd,dM (show(Test.cells x).length=4 from rfl)]
  refine⟨by simp [Test.cells],?_⟩
  intro c hc
  have hpc:=Q6 hB hc
  simp only[e0,Test.cells,Q1,seval]
  have hov:=hov.set (hov.gone hpc.symm hc) (o:=some (.cells [.str x.clock,bo x.lower,bo x.strict,i64 x.c])) (by simp)
  have hB:=(Qa B c (some (.cells [.str x.clock,bo x.lower,bo x.strict,i64 x.c])) hpc).trans hB
  have hcc:(B.upd c (some (.cells [.str x.clock,bo x.lower,bo x.strict,i64 x.c]))) c=some (.cells [.str x.clock,bo x.lower,bo x.strict,i64 x.c]):=Q0 ..
  generalize B.upd c (some (.cells [.str x.clock,bo x.lower,bo x.strict,i64 x.c]))=B at*
  refine QY (cs:=[.str x.clock]) (Jf _ _ rfl (by decide)) fun t1 ht1=> ?_
  have hpt:=Q6 hB ht1
  have hov:=hov.tip hpt.symm ht1
  have hcc:=(Qa B t1 (some .tip) (Q6 hcc ht1)).trans hcc
  have hB:=(Qa B t1 (some .tip) hpt).trans hB
  generalize B.upd t1 (some .tip)=B at*
  simp only[e0,Q1,seval]
  refine Q2 (Th G (l:=[x.clock]) rfl rfl (by simp) (by simpa using hs x (by rw[hpp];simp)) hB) ?_
  have hov:=hov.at (some (Zc (w'||[x.clock].any fun s=> !Qe s) (m||decide (16<l.length))))
  have hcc:=(Qa B p (some (Zc (w'||[x.clock].any fun s=> !Qe s) (m||decide (16<l.length)))) hpc.symm).trans hcc
  have hB:(B.upd p (some (Zc (w'||[x.clock].any fun s=> !Qe s) (m||decide (16<l.length))))) p=_:=Q0 ..
  generalize B.upd p (some (Zc (w'||[x.clock].any fun s=> !Qe s) (m||decide (16<l.length))))=B at*
  simp only[e0,hcc,Q1,seval]
  refine QY (cs:=[i64 x.c]) (Jf _ _ rfl (by decide)) fun t2 ht2=> ?_
  have hpt:=Q6 hB ht2
  have hov:=hov.tip hpt.symm ht2
  have hB:=(Qa B t2 (some .tip) hpt).trans hB
  generalize B.upd t2 (some .tip)=B at*
  simp only[e0,Q1,seval]
  refine Q2 (k57 G (l:=[x.c]) rfl rfl (by simp) hB) ?_
  simp only[e0,e10,e11,e12,e2,Q1,seval]
  refine⟨post.length,by simp,pre++[x],post,(w'|| !Vp x),by simp [hpp],rfl,rfl,hov.at _,?_,?_⟩
  ·simp [Vp,dK]
  ·rw[hW];simp [dK]
end
def J4 (k:Int):Bs×Nat:=
 if k=17 then([124,124],1)else if k=16 then([38,38],2)else if k=10 then([60],3)else if k=11 then([60,61],3)else if k=12 then([61,61],3)else if k=13 then([33,61],3)
 else if k=14 then([62,61],3)else if k=15 then([62],3)else if k=5 then([43],4)else if k=6 then([45],4)else if k=7 then([42],5)else if k=8 then([47],5)else if k=9 then([37],5)else([],0)
theorem TZ {n:Nat}{t:Bs}{k:Int}(h:(t,k)∈ZH n):J4 k=(t,n):=by
 have hn:n=1∨n=2∨n=3∨n=4∨n=5:=by
  match n,h with
  |1,_=>simp
  |2,_=>simp
  |3,_=>simp
  |4,_=>simp
  |5,_=>simp
 rcases hn with rfl|rfl|rfl|rfl|rfl <;> simp only[ZH,dT,dL,or_false,cW]at h
 ·obtain⟨rfl,rfl⟩:=h;rfl
 ·obtain⟨rfl,rfl⟩:=h;rfl
 ·rcases h with⟨rfl,rfl⟩|⟨rfl,rfl⟩|⟨rfl,rfl⟩|⟨rfl,rfl⟩|⟨rfl,rfl⟩|⟨rfl,rfl⟩ <;> rfl
 ·rcases h with⟨rfl,rfl⟩|⟨rfl,rfl⟩ <;> rfl
 ·rcases h with⟨rfl,rfl⟩|⟨rfl,rfl⟩|⟨rfl,rfl⟩ <;> rfl
theorem My {k:Int}(h:∀n≤5,∀t,(t,k)∉ZH n):J4 k=([],0):=by
 unfold J4
 have e:∀(t:Bs) (n:Nat) (c:Int),n≤5→(t,c)∈ZH n→k≠c:=fun t n c hn hm e=>h n hn t (e▸hm)
 rw[fD (e _ 1 17 (by omega) (by simp [ZH];rfl)),fD (e _ 2 16 (by omega) (by simp [ZH];rfl)),fD (e [60] 3 10 (by omega) (by simp [ZH])),fD (e [60,61] 3 11 (by omega) (by simp [ZH])),fD (e [61,61] 3 12 (by omega) (by simp [ZH])),
  fD (e [33,61] 3 13 (by omega) (by simp [ZH])),fD (e [62,61] 3 14 (by omega) (by simp [ZH])),fD (e [62] 3 15 (by omega) (by simp [ZH])),fD (e [43] 4 5 (by omega) (by simp [ZH])),fD (e [45] 4 6 (by omega) (by simp [ZH])),
  fD (e [42] 5 7 (by omega) (by simp [ZH])),fD (e [47] 5 8 (by omega) (by simp [ZH])),fD (e [37] 5 9 (by omega) (by simp [ZH]))]
section
variable (G:Nat→Option (List AV))
theorem GM (k:Int)(A:Q3):Qu Tryz.prog G 239 [i64 k] A (.tuple [.str (J4 k).1,i64 (J4 k).2]) A:=by
 refine Q4 l239 (fE rfl) ?_
 simp only[BM,Q1,seval]
 refine Qk (CQ G A) ?_
 rintro o B ⟨ms,rfl,hml,hO,hm0,hms⟩
 simp only[Q1,seval]
 refine Qv (fun c env ds B=>∃n,c+n=6∧env 0=i64 k∧env 8=.agg ms∧env 9=i64 n∧ds=[]∧Z7 A B∧(∀n,1≤n→n≤5→∃m,ms[n]? =some (.map m)∧B m=some (.mp (Ok (ZH n))))∧∀n'<n,∀t,(t,k)∉ZH n') 6
  ⟨0,rfl,rfl,rfl,rfl,rfl,hO,hms,by omega⟩ ?_
 clear hms hO
 rintro c env ds B ⟨n,hc,e0,e8,e9,rfl,hO,hms,hno⟩
 by_cases hn:n<6
 ·have hlt:((n:Int)<6):=by omega
  simp only[e0,e8,e9,W0,fA hlt,Q1,seval]
  have hlt6:((n:Int)<((6:Nat):Int)):=by omega
  have e2:IntKind.i64.wrap ((n:Int)+1)=((n+1:Nat):Int):=by rw[Qg (by omega) (by omega)];rfl
  simp only[fC hlt6,Nat.mul_one]
  by_cases h0:n=0
  ·subst h0
   refine JY (v:=.raw (.map none)) hm0 ?_
   simp only[e0,e8,e9,Cx.rng,Q1,seval]
   intro it hit
   refine Qv (fun c env ds B=>env 0=i64 k∧env 8=.agg ms∧env 9=i64 (0:Nat)∧env 14=.ptr it 0∧ds=[]∧Z7 A B∧(∀n,1≤n→n≤5→∃m,ms[n]? =some (.map m)∧B m=some (.mp (Ok (ZH n))))∧B it=some (.mit none [] none)) 0 ⟨e0,e8,e9,rfl,rfl,hO.set (hO.gone hit) (by simp),fun n h1 h2=> ?_,Q0 ..⟩ ?_
   ·obtain⟨m,k1,k2⟩:=hms n h1 h2
    exact⟨m,k1,by rw[Q5 (Q6 k2 hit),k2]⟩
   rintro c' env ds B ⟨e0,e8,e9,e14,rfl,hO,hms,hit⟩
   simp only[e0,e8,e9,e14,Cx.nxt,hit,Jp,Q1,seval]
   refine⟨?_,fun j a b h=>by simp at h⟩
   exact⟨5,by omega,1,by omega,by simpa using e2,hO,hms,fun n' hn' t ht=>by
    have:n'=0:=by omega
    subst this;simp [ZH]at ht⟩
  ·obtain⟨m,hm,hB⟩:=hms n (by omega) (by omega)
   refine JY (v:=.map m) (by rw[fC (by omega)];exact hm) ?_
   simp only[e0,e8,e9,Cx.rng,hB,Jp,Q1,seval]
   intro it hit
   refine Qv (fun c env ds B=>∃left last,c=left.length∧env 0=i64 k∧env 4=i64 n∧env 8=.agg ms∧env 9=i64 n∧env 14=.ptr it 0∧ds=[]∧Z7 A B∧(∀n,1≤n→n≤5→∃m,ms[n]? =some (.map m)∧B m=some (.mp (Ok (ZH n))))∧B it=some (.mit (some m) left last)∧
    (∀t,(t,k)∈ZH n→(AV.str t,i64 k)∈left)∧(∀e∈left,∃t k',e=(AV.str t,i64 k')∧(t,k')∈ZH n)) (Ok (ZH n)).length
    ⟨_,_,rfl,e0,rfl,e8,e9,rfl,rfl,hO.set (hO.gone hit) (by simp),fun n h1 h2=> ?_,Q0 ..,fun t ht=>List.mem_map.2 ⟨_,ht,rfl⟩,fun e he=> ?_⟩ ?_
   ·obtain⟨m,k1,k2⟩:=hms n h1 h2
    exact⟨m,k1,by rw[Q5 (Q6 k2 hit),k2]⟩
   ·obtain⟨p,hp,rfl⟩:=List.mem_map.1 he
    exact⟨p.1,p.2,rfl,hp⟩
   have hAit:=hO.gone hit
   clear hO hms hB
   rintro c' env ds B ⟨left,last,rfl,e0,e4,e8,e9,e14,rfl,hO,hms,hit',hl1,hl2⟩
   simp only[e0,e4,e8,e9,e14,Cx.nxt,hit',Jp,Q1,seval]
   refine⟨fun hnil=> ?_,fun j a b h=> ?_⟩
   ·subst hnil
    exact⟨5 - n,by omega,n+1,by omega,by simpa using e2,hO,hms,fun n' hn' t ht=>by
     by_cases e:n'=n
     ·subst e;have:=hl1 t ht;cases this
     ·exact hno n' (by omega) t ht⟩
   ·obtain⟨t,k',he,hm'⟩:=hl2 (a,b) (List.mem_of_getElem? h)
    simp only[cW]at he
    obtain⟨rfl,rfl⟩:=he
    simp only[e0,e4,e8,e9,e14,Cx.ent,Jp,Q1,seval]
    have hj:j<left.length:=by rw[fO]at h;exact h.1
    refine⟨fun e=>Qb (by subst e;rw[TZ hm']) (hO.set hAit (by simp)),fun e=>⟨_,?_,_,_,rfl,hO.set hAit (by simp),fun n h1 h2=> ?_,rfl,fun t' ht'=> ?_,fun e he=>hl2 e (List.mem_of_mem_eraseIdx he)⟩⟩
    ·rw[List.length_eraseIdx,fC hj];omega
    ·obtain⟨m',k1,k2⟩:=hms n h1 h2
     exact⟨m',k1,by rw[Q5 (fun e=>by rw[e,hit']at k2;cases k2),k2]⟩
    ·obtain⟨i,hi⟩:=List.getElem?_of_mem (hl1 t' ht')
     refine List.mem_eraseIdx_iff_getElem?.2 ⟨i,fun e2=> ?_,hi⟩
     rw[e2,h]at hi
     simp only[cA,cW,AV.raw.injEq,Value.int.injEq]at hi
     exact e hi.2.2
 ·have hlt:¬((n:Int)<6):=by omega
  simp only[e0,e8,e9,W0,fB hlt,Q1,seval]
  rw[My fun n' hn'=>hno n' (by omega)]
  exact Qb rfl hO
end
mutual
def VS:Exp→Prop
 | .mk _ n _ xs=>n.length<2^60∧xs.length<2^60∧Hy xs
def Hy:List Exp→Prop
 |[]=>True
 |x::xs=>VS x∧Hy xs
end
theorem Xd:∀{xs:List Exp},Hy xs→∀x∈xs,VS x
 |y::ys,h,x,hx=>by
  simp only[Hy]at h
  rcases dT.1 hx with rfl|hx
  ·exact h.1
  ·exact Xd h.2 x hx
theorem Xb:∀(xs:List Exp),Ix xs=xs.all ZC
 |[]=>rfl
 |x::xs=>by simp only[Ix,dU,Xb xs]
theorem Mx {k:Int}:(J4 k).2=0↔¬(5≤k∧k≤17):=by
 by_cases h:5≤k∧k≤17
 ·have:k=5∨k=6∨k=7∨k=8∨k=9∨k=10∨k=11∨k=12∨k=13∨k=14∨k=15∨k=16∨k=17:=by omega
  rcases this with rfl|rfl|rfl|rfl|rfl|rfl|rfl|rfl|rfl|rfl|rfl|rfl|rfl <;> simp [J4]
 ·rw[My fun n hn t ht=> ?_]
  ·simp [h]
  ·have:=TZ ht
   apply h
   have hn:n=0∨n=1∨n=2∨n=3∨n=4∨n=5:=by omega
   rcases hn with rfl|rfl|rfl|rfl|rfl|rfl <;> simp only[ZH,dT,dL,or_false,cW]at ht <;> omega
def Wc (k:Int)(n:Nat):Int:=match Zo k with
 |none=>2
 |some none=>n
 |some (some m)=>m
section
variable (G:Nat→Option (List AV))
theorem CR:∀(x:Exp) {A:Q3},VS x→Qu Tryz.prog G 195 [Zw x] A (bo (ZC x)) A:=by
 intro x
 induction hn:SizeOf.sizeOf x using Nat.strongRecOn generalizing x with
 |_ sz ih=>
 intro A hx
 obtain⟨k,n,i,xs⟩:=x
 simp only[VS]at hx
 obtain⟨hx1,hx2,hx3⟩:=hx
 refine Q4 l195 (fE rfl) ?_
 unfold Ai
 refine Qd (fun env ds A'=>∃c,env 1=.ptr c 0∧ds=[]∧A c=none∧A'=A.upd c (some (.cells [i64 k,.str n,i64 i,.slice 4 xs.length (Exp.cellsL xs) none]))) ?_ ?_
 ·simp only[Zw,Exp.cells,Q1,seval]
  intro c hc
  exact⟨c,rfl,hc,rfl⟩
 rintro env ds A' ⟨c,e1,rfl,hc,rfl⟩
 have hO:Z7 A (A.upd c (some (.cells [i64 k,.str n,i64 i,.slice 4 xs.length (Exp.cellsL xs) none]))):=(Z7.refl A).set hc (by simp)
 have hcc:(A.upd c (some (.cells [i64 k,.str n,i64 i,.slice 4 xs.length (Exp.cellsL xs) none]))) c=some (.cells [i64 k,.str n,i64 i,.slice 4 xs.length (Exp.cellsL xs) none]):=Q0 ..
 generalize(A.upd c (some (.cells [i64 k,.str n,i64 i,.slice 4 xs.length (Exp.cellsL xs) none])))=B at*
 refine Qd (fun env ds A'=>env 1=.ptr c 0∧env 3=i64 2∧ds=[]∧B=A') ?_ ?_
 ·simp only[e1,Q1,seval]
 rintro env ds _ ⟨e1,e3,rfl,rfl⟩
 refine Qd (fun env ds B'=>Zo k≠none∧env 1=.ptr c 0∧env 3=i64 (Wc k xs.length)∧ds=[]∧B=B') ?_ ?_
 ·simp only[e1,hcc,Q1,seval]
  have hl:∀(j:Int) (N:Nat),k=j→Zo k=some (some N)→Zo k≠none∧AV.raw (Value.int IntKind.i64 N)=i64 (Wc k xs.length):=fun j N _ h=>⟨by rw[h];simp,by simp only[Wc,h]⟩
  refine⟨fun h=>hl 1 0 h (by simp [Zo,h]),fun h1=>⟨fun h=>hl 2 0 h (by simp [Zo,h]),fun h2=>⟨fun h=>hl 3 1 h (by simp [Zo,h]),fun h3=>⟨fun h=>hl 4 1 h (by simp [Zo,h]),fun h4=>⟨fun h=>hl 18 3 h (by simp [Zo,h]),fun h18=>⟨fun h=> ?_,fun h19=> ?_⟩⟩⟩⟩⟩⟩
  ·have:Zo k=some none:=by simp [Zo,h]
   exact⟨by rw[this];simp,by simp only[Wc,this]⟩
  ·refine Q2 (GM G k _) ?_
   simp only[e1,e3,Q1,seval]
   refine⟨fun h=> ?_,fun h=> ?_⟩
   ·have h5:¬(5≤k∧k≤17):=Mx.1 (by omega)
    have:Zo k=none:=by simp only[Zo,h1,h2,h3,h4,h5,h18,h19,or_self,if_false]
    exact Qb (by simp [ZC,Yf,this]) hO
   ·have h5:5≤k∧k≤17:=Decidable.byContradiction fun e=>h (by rw[Mx.2 e];rfl)
    have:Zo k=some (some 2):=by simp only[Zo,h1,h2,h3,h4,h5,or_self,if_false,and_self,if_true]
    exact⟨by rw[this];simp,by simp only[Wc,this];rfl⟩
 rintro env ds _ ⟨har,e1,e3,rfl,rfl⟩
 refine Qd (fun env ds B'=>env 1=.ptr c 0∧env 3=i64 (Wc k xs.length)∧env 6=bo n.isEmpty∧ds=[]∧B=B') ?_ ?_
 ·simp only[e1,e3,hcc,Q1,seval]
  exact⟨fun h=>by rw[h];rfl,fun h=>by cases n with|nil=>exact absurd rfl h|cons a b=>rfl⟩
 rintro env ds _ ⟨e1,e3,e6,rfl,rfl⟩
 refine Qd (fun env ds B'=>env 1=.ptr c 0∧env 3=i64 (Wc k xs.length)∧env 6=bo (if k=2∨k=19 then Qe n else n.isEmpty)∧ds=[]∧B=B') ?_ ?_
 ·simp only[e1,e3,e6,hcc,Q1,seval]
  have key:∀(h:k=2∨k=19),bo (Qe n)=bo (if k=2∨k=19 then Qe n else n.isEmpty):=fun h=>by rw[fC h]
  refine⟨fun h2=> ?_,fun h2=>⟨fun h19=> ?_,fun h19=>by rw[fD (by omega)]⟩⟩
  ·refine Q2 (IA G n _ (by omega)) ?_
   simp only[e1,e3,e6,Q1,seval]
   exact key (.inl h2)
  ·refine Q2 (IA G n _ (by omega)) ?_
   simp only[e1,e3,e6,Q1,seval]
   exact key (.inr h19)
 rintro env ds _ ⟨e1,e3,e6,rfl,rfl⟩
 have hw:((xs.length:Int)=Wc k xs.length)↔(match Zo k with|none=>false|some none=>true|some (some m)=>xs.length==m)=true:=by
  simp only[Wc]
  cases h:Zo k with
  |none=>exact absurd h har
  |some o=>cases o with
   |none=>simp
   |some m=>simp only[beq_iff_eq];omega
 have hwf:ZC (.mk k n i xs)=(decide ((xs.length:Int)=Wc k xs.length)&&(i==0||k==1)&&ZJ i&&(if k=2∨k=19 then Qe n else n.isEmpty)&& !(xs.any fun x=> !ZC x)):=by
  simp only[ZC,Yf,Xb]
  have hd:decide ((xs.length:Int)=Wc k xs.length)=(match Zo k with|none=>false|some none=>true|some (some m)=>xs.length==m):=by rw[fR,dZ];exact hw
  rw[hd,dG]
  rfl
 rw[hwf]
 generalize(if k=2∨k=19 then Qe n else n.isEmpty)=nb at*
 cases nb with
 |false=>
  simp only[e1,e3,e6,hcc,Q1,seval]
  exact Qb (by simp) hO
 |true=>
  have h241:∀x∈xs,∀A,Qu Tryz.prog G 241 [.agg (Exp.cells x)] A (bo !(ZC x)) A:=fun x hx A=>by
   have hlt:SizeOf.sizeOf x<sz:=by
    have:=cY hx
    rw[←hn];simp only[Exp.mk.sizeOf_spec];omega
   obtain⟨k',n',i',xs'⟩:=x
   refine Q4 l241 (fE rfl) ?_
   simp only[BJ,Exp.cells,Q1,seval]
   intro d hd
   refine Q2 (ih _ hlt (.mk k' n' i' xs') rfl (Xd hx3 _ hx)) ?_
   simp only[Q1,seval]
   exact Qb rfl ((Z7.refl _).set hd (by simp))
  have hcall:∀B,Qu Tryz.prog G 240 [.slice 4 xs.length (Exp.cellsL xs) none,.func (.func 241) [] []] B (bo (xs.any fun x=> !ZC x)) B:=fun B=>
   k240 G (enc:=Exp.cells) (p:=fun x=> !ZC x) Exp.cells_len rfl (Exp.cellsL_eq xs) (by omega) fun x hx=>h241 x hx B
  simp only[e1,e3,e6,hcc,Q1,seval]
  refine⟨fun a=> ?_,fun a=>Qb (by simp [a]) hO⟩
  refine⟨fun b=>⟨fun c=>⟨fun d=> ?_,fun d=>Qb (by simp [ZJ,d]) hO⟩,fun c=>Qb (by simp [ZJ,c]) hO⟩,fun b=>⟨fun k1=>⟨fun c=>⟨fun d=> ?_,fun d=>Qb (by simp [ZJ,d]) hO⟩,fun c=>Qb (by simp [ZJ,c]) hO⟩,fun k1=>Qb (by simp [b,k1]) hO⟩⟩
  ·refine Q2 (hcall _) ?_
   simp only[e1,Q1,seval]
   exact Qb (by simp [a,b,ZJ,c,d]) hO
  ·refine Q2 (hcall _) ?_
   simp only[e1,Q1,seval]
   exact Qb (by rw[fA a];simp [b,k1,ZJ,c,d]) hO
end
def Yc (x:Exp):Int:=if ZC x then(if Zm x then 0 else 3)else 2
mutual
def KO:Stmt→Prop
 | .mk _ n v b e=>n.length<2^60∧VS v∧b.length<2^60∧e.length<2^60∧K4 b∧K4 e
def K4:List Stmt→Prop
 |[]=>True
 |x::xs=>KO x∧K4 xs
end
theorem Xc:∀{xs:List Stmt},K4 xs→∀x∈xs,KO x
 |y::ys,h,x,hx=>by
  simp only[K4]at h
  rcases dT.1 hx with rfl|hx
  ·exact h.1
  ·exact Xc h.2 x hx
theorem Wz:∀(xs:List Stmt),UX xs=xs.all Uq
 |[]=>rfl
 |x::xs=>by simp only[UX,dU,Wz xs]
section
variable (G:Nat→Option (List AV))
theorem GO (x:Exp){A:Q3}(h1:VS x)(h2:(Z8 x).nodes<2^61):Qu Tryz.prog G 139 [Zw x] A (i64 (Yc x)) A:=by
 obtain⟨k,n,i,xs,hx⟩:∃k n i xs,x=.mk k n i xs:=by cases x;exact⟨_,_,_,_,rfl⟩
 refine Q4 l139 (fE rfl) ?_
 have e:Zw x=.agg [i64 k,.str n,i64 i,.slice 4 xs.length (Exp.cellsL xs) none]:=by rw[hx];rfl
 rw[e]
 simp only[AR,Q1,seval]
 intro c hc
 have hO:Z7 A (A.upd c (some (.cells [i64 k,.str n,i64 i,.slice 4 xs.length (Exp.cellsL xs) none]))):=(Z7.refl A).set hc (by simp)
 rw[←e]
 refine Q2 (CR G x h1) ?_
 unfold Yc
 cases hw:ZC x with
 |false=>
  simp only[Q1,seval]
  exact Qb rfl hO
 |true=>
  simp only[Q1,seval]
  rw[←e]
  refine Q2 (GR G x h2) ?_
  simp only[Q1,seval]
  refine Q2 (GS G (Z8 x) _) ?_
  have hs:(Z8 x).small=Zm x:=rfl
  rw[hs]
  cases hsm:Zm x with
  |false=>
   simp only[Q1,seval]
   exact Qb rfl hO
  |true=>
   simp only[Q1,seval]
   exact Qb rfl hO
set_option maxHeartbeats 4000000 in
theorem k137:∀(x:Stmt) {A:Q3},KO x→Qu Tryz.prog G 137 [.agg x.cells] A (bo (Uq x)) A:=by
 intro x
 induction hn:SizeOf.sizeOf x using Nat.strongRecOn generalizing x with
 |_ sz ih=>
 intro A hx
 obtain⟨k,n,v,b,e⟩:=x
 obtain⟨vk,vn,vi,vs⟩:=v
 simp only[KO]at hx
 obtain⟨hx1,hx2,hx3,hx4,hx5,hx6⟩:=hx
 refine Q4 l137 (fE rfl) ?_
 unfold AT
 have hcl:∀(fn:FuncId) (cd:LC),True:=fun _ _=>trivial
 refine Qd (fun env ds A'=>∃c,env 1=.ptr c 0∧ds=[]∧A c=none∧A'=A.upd c (some (.cells (Stmt.cells (.mk k n (.mk vk vn vi vs) b e))))) ?_ ?_
 ·simp only[Stmt.cells,Exp.cells,Q1,seval]
  intro c hc
  exact⟨c,rfl,hc,rfl⟩
 rintro env ds A' ⟨c,e1,rfl,hc,rfl⟩
 have hO:Z7 A (A.upd c (some (.cells (Stmt.cells (.mk k n (.mk vk vn vi vs) b e))))):=(Z7.refl A).set hc (by simp)
 have hcc:(A.upd c (some (.cells (Stmt.cells (.mk k n (.mk vk vn vi vs) b e))))) c=some (.cells (Stmt.cells (.mk k n (.mk vk vn vi vs) b e))):=Q0 ..
 generalize(A.upd c (some (.cells (Stmt.cells (.mk k n (.mk vk vn vi vs) b e)))))=B at*
 simp only[Stmt.cells,Exp.cells,cF,cI]at hcc
 refine Qd (fun env ds B'=>env 1=.ptr c 0∧env 3=bo n.isEmpty∧ds=[]∧B=B') ?_ ?_
 ·simp only[e1,hcc,Q1,seval]
  exact⟨fun h=>by rw[h];rfl,fun h=>by cases n with|nil=>exact absurd rfl h|cons a b=>rfl⟩
 rintro env ds _ ⟨e1,e3,rfl,rfl⟩
 refine Qd (fun env ds B'=>env 1=.ptr c 0∧env 3=bo (if k=1∨k=2 then Qe n else n.isEmpty)∧ds=[]∧B=B') ?_ ?_
 ·simp only[e1,e3,hcc,Q1,seval]
  have key:∀(h:k=1∨k=2),bo (Qe n)=bo (if k=1∨k=2 then Qe n else n.isEmpty):=fun h=>by rw[fC h]
  refine⟨fun h2=> ?_,fun h2=>⟨fun h19=> ?_,fun h19=>by rw[fD (by omega)]⟩⟩
  ·refine Q2 (IA G n _ (by omega)) ?_
   simp only[e1,e3,Q1,seval]
   exact key (.inl h2)
  ·refine Q2 (IA G n _ (by omega)) ?_
   simp only[e1,e3,Q1,seval]
   exact key (.inr h19)
 rintro env ds _ ⟨e1,e3,rfl,rfl⟩
 have hwf:Uq (.mk k n (.mk vk vn vi vs) b e)=(decide (1≤k)&&decide (k≤5)&&(if k=1∨k=2 then Qe n else n.isEmpty)&&ZC (.mk vk vn vi vs)&&(decide ((b.length:Int)=0)||decide (k=3)||decide (k=4))&&(decide ((e.length:Int)=0)||decide (k=3))&& !(b.any fun x=> !Uq x)&& !(e.any fun x=> !Uq x)):=by
  simp only[Uq,Wu,Wz]
  rw[←dG,←dG]
  have e1:decide ((b.length:Int)=0)=(b.length==0):=by rw[fR];simp
  have e2:decide ((e.length:Int)=0)=(e.length==0):=by rw[fR];simp
  rw[e1,e2,Bool.decide_and]
  have e3:∀j:Int,(k==j)=decide (k=j):=fun j=>rfl
  simp only[e3]
  generalize decide (1≤k)=a1;generalize decide (k≤5)=a2;generalize(if k=1∨k=2 then Qe n else n.isEmpty)=a3;generalize ZC (.mk vk vn vi vs)=a4;generalize(b.length==0)=a5;generalize(e.length==0)=a6
  cases a1 <;> cases a2 <;> cases a3 <;> cases a4 <;> simp
 have h194:∀L:List Stmt,(∀x∈L,KO x∧SizeOf.sizeOf x<sz)→∀x∈L,∀A,Qu Tryz.prog G 194 [.agg (Stmt.cells x)] A (bo !(Uq x)) A:=fun L hL x hx A=>by
  obtain⟨k',n',v',b',e'⟩:=x
  obtain⟨vk',vn',vi',vs'⟩:=v'
  refine Q4 l194 (fE rfl) ?_
  simp only[Aj,Stmt.cells,Exp.cells,Q1,seval]
  intro d hd
  refine Q2 (ih _ (hL _ hx).2 (.mk k' n' (.mk vk' vn' vi' vs') b' e') rfl (hL _ hx).1) ?_
  simp only[Q1,seval]
  exact Qb rfl ((Z7.refl _).set hd (by simp))
 have hcall:∀L:List Stmt,L.length<2^60→(∀x∈L,KO x∧SizeOf.sizeOf x<sz)→∀B,Qu Tryz.prog G 135 [.slice 8 L.length (Stmt.cellsL L) none,.func (.func 194) [] []] B (bo (L.any fun x=> !Uq x)) B:=fun L h1 hL B=>
  CT G (enc:=Stmt.cells) (p:=fun x=> !Uq x) Stmt.cells_len rfl (Stmt.cellsL_eq L) (by omega) fun x hx=>h194 L hL x hx B
 have hb:=hcall b hx3 fun x hx=>⟨Xc hx5 x hx,by have:=cY hx;rw[←hn];simp only[Stmt.mk.sizeOf_spec];omega⟩
 have he:=hcall e hx4 fun x hx=>⟨Xc hx6 x hx,by have:=cY hx;rw[←hn];simp only[Stmt.mk.sizeOf_spec];omega⟩
 rw[hwf]
 generalize(if k=1∨k=2 then Qe n else n.isEmpty)=nb at*
 cases nb with
 |false=>
  simp only[e1,e3,hcc,Q1,seval]
  exact⟨fun _=>⟨fun _=>Qb (by simp) hO,fun _=>Qb (by simp) hO⟩,fun _=>Qb (by simp) hO⟩
 |true=>
  simp only[e1,e3,hcc,Q1,seval]
  generalize(b.any fun x=> !Uq x)=bb at hb⊢
  generalize(e.any fun x=> !Uq x)=ee at he⊢
  refine⟨fun a1=>⟨fun a2=> ?_,fun a2=>Qb (by simp only[fB a2,dB,dC,dF,dE,dS,dQ,cZ,cT,cM,cK]) hO⟩,fun a1=>Qb (by simp only[fB a1,dB,dC,dF,dE,dS,dQ,cZ,cT,cM,cK]) hO⟩
  refine Q2 (CR G (.mk vk vn vi vs) hx2) ?_
  cases hwv:ZC (.mk vk vn vi vs)with
  |false=>
   simp only[e1,hcc,Q1,seval]
   exact Qb (by simp only[dB,dC,dF,dE,dS,dQ,cZ,cT,cM,cK]) hO
  |true=>
   simp only[e1,hcc,Q1,seval]
   refine⟨fun hb0=> ?_,fun hb0=>⟨fun k3=> ?_,fun k3=>⟨fun k4=> ?_,fun k4=>Qb (by simp only[fB hb0,fB k3,fB k4,dB,dC,dF,dE,dS,dQ,cZ,cT,cM,cK]) hO⟩⟩⟩
   ·refine⟨fun he0=> ?_,fun he0=>⟨fun k3'=> ?_,fun k3'=>Qb (by simp only[fA a1,fA a2,fA hb0,fB he0,fB k3',dB,dC,dF,dE,dS,dQ,cZ,cT,cM,cK]) hO⟩⟩
    ·refine Q2 (hb _) ?_
     cases bb with
     |true=>
      simp only[e1,hcc,Q1,seval]
      exact Qb (by simp only[fA a1,fA a2,fA hb0,fA he0,dB,dC,dF,dE,dS,dQ,cZ,cT,cM,cK]) hO
     |false=>
      simp only[e1,hcc,Q1,seval]
      refine Q2 (he _) ?_
      cases ee with
      |true=>
       simp only[e1,hcc,Q1,seval]
       exact Qb (by simp only[fA a1,fA a2,fA hb0,fA he0,dB,dC,dF,dE,dS,dQ,cZ,cT,cM,cK]) hO
      |false=>
       simp only[e1,hcc,Q1,seval]
       exact Qb (by simp only[fA a1,fA a2,fA hb0,fA he0,dB,dC,dF,dE,dS,dQ,cZ,cT,cM,cK]) hO
    ·refine Q2 (hb _) ?_
     cases bb with
     |true=>
      simp only[e1,hcc,Q1,seval]
      exact Qb (by simp only[fA a1,fA a2,fA hb0,fB he0,fA k3',dB,dC,dF,dE,dS,dQ,cZ,cT,cM,cK]) hO
     |false=>
      simp only[e1,hcc,Q1,seval]
      refine Q2 (he _) ?_
      cases ee with
      |true=>
       simp only[e1,hcc,Q1,seval]
       exact Qb (by simp only[fA a1,fA a2,fA hb0,fB he0,fA k3',dB,dC,dF,dE,dS,dQ,cZ,cT,cM,cK]) hO
      |false=>
       simp only[e1,hcc,Q1,seval]
       exact Qb (by simp only[fA a1,fA a2,fA hb0,fB he0,fA k3',dB,dC,dF,dE,dS,dQ,cZ,cT,cM,cK]) hO
   ·refine⟨fun he0=> ?_,fun he0=>⟨fun k3'=> ?_,fun k3'=>absurd k3 k3'⟩⟩
    ·refine Q2 (hb _) ?_
     cases bb with
     |true=>
      simp only[e1,hcc,Q1,seval]
      exact Qb (by simp only[fA a1,fA a2,fB hb0,fA k3,fA he0,dB,dC,dF,dE,dS,dQ,cZ,cT,cM,cK]) hO
     |false=>
      simp only[e1,hcc,Q1,seval]
      refine Q2 (he _) ?_
      cases ee with
      |true=>
       simp only[e1,hcc,Q1,seval]
       exact Qb (by simp only[fA a1,fA a2,fB hb0,fA k3,fA he0,dB,dC,dF,dE,dS,dQ,cZ,cT,cM,cK]) hO
      |false=>
       simp only[e1,hcc,Q1,seval]
       exact Qb (by simp only[fA a1,fA a2,fB hb0,fA k3,fA he0,dB,dC,dF,dE,dS,dQ,cZ,cT,cM,cK]) hO
    ·refine Q2 (hb _) ?_
     cases bb with
     |true=>
      simp only[e1,hcc,Q1,seval]
      exact Qb (by simp only[fA a1,fA a2,fB hb0,fA k3,fB he0,fA k3',dB,dC,dF,dE,dS,dQ,cZ,cT,cM,cK]) hO
     |false=>
      simp only[e1,hcc,Q1,seval]
      refine Q2 (he _) ?_
      cases ee with
      |true=>
       simp only[e1,hcc,Q1,seval]
       exact Qb (by simp only[fA a1,fA a2,fB hb0,fA k3,fB he0,fA k3',dB,dC,dF,dE,dS,dQ,cZ,cT,cM,cK]) hO
      |false=>
       simp only[e1,hcc,Q1,seval]
       exact Qb (by simp only[fA a1,fA a2,fB hb0,fA k3,fB he0,fA k3',dB,dC,dF,dE,dS,dQ,cZ,cT,cM,cK]) hO
   ·refine⟨fun he0=> ?_,fun he0=>⟨fun k3'=> ?_,fun k3'=>Qb (by simp only[fA a1,fA a2,fB hb0,fB k3,fA k4,fB he0,fB k3',dB,dC,dF,dE,dS,dQ,cZ,cT,cM,cK]) hO⟩⟩
    ·refine Q2 (hb _) ?_
     cases bb with
     |true=>
      simp only[e1,hcc,Q1,seval]
      exact Qb (by simp only[fA a1,fA a2,fB hb0,fB k3,fA k4,fA he0,dB,dC,dF,dE,dS,dQ,cZ,cT,cM,cK]) hO
     |false=>
      simp only[e1,hcc,Q1,seval]
      refine Q2 (he _) ?_
      cases ee with
      |true=>
       simp only[e1,hcc,Q1,seval]
       exact Qb (by simp only[fA a1,fA a2,fB hb0,fB k3,fA k4,fA he0,dB,dC,dF,dE,dS,dQ,cZ,cT,cM,cK]) hO
      |false=>
       simp only[e1,hcc,Q1,seval]
       exact Qb (by simp only[fA a1,fA a2,fB hb0,fB k3,fA k4,fA he0,dB,dC,dF,dE,dS,dQ,cZ,cT,cM,cK]) hO
    ·exact absurd k3' k3
end
def HX (f:Func):Prop:=f.name.length<2^60∧f.params.length<2^60∧(∀p∈f.params,p.length<2^60)∧f.body.length<2^60∧K4 f.body
def UY (l:List Func):Int:=if Us l then(if JZ l then 0 else 3)else 2
section
variable (G:Nat→Option (List AV))
theorem k136 (x:Stmt){A:Q3}(h:KO x):Qu Tryz.prog G 136 [.agg x.cells] A (bo !(Uq x)) A:=by
 obtain⟨k',n',v',b',e'⟩:=x
 obtain⟨vk',vn',vi',vs'⟩:=v'
 refine Q4 l136 (fE rfl) ?_
 simp only[AU,Stmt.cells,Exp.cells,Q1,seval]
 intro d hd
 refine Q2 (k137 G (.mk k' n' (.mk vk' vn' vi' vs') b' e') h) ?_
 simp only[Q1,seval]
 exact Qb rfl ((Z7.refl _).set hd (by simp))
theorem k59 (l:List Func){A:Q3}(hl:∀f∈l,HX f)(hlen:l.length<2^60)(hb:(J8 ⟨0,0,false⟩ l).nodes<2^61):Qu Tryz.prog G 59 [Qy 3 Func.cells l] A (i64 (UY l)) A:=by
 refine Q4 l59 (fE rfl) ?_
 simp only[C59,Qy,Q1,seval]
 refine Qv (fun k env ds B=>∃pre post,l=pre++post∧k=post.length∧env 0=Qy 3 Func.cells l∧env 5=Qy 3 Func.cells l∧env 6=i64 l.length∧env 7=i64 pre.length∧ds=[]∧Z7 A B∧Us pre=true) l.length
  ⟨[],l,rfl,rfl,rfl,rfl,rfl,rfl,rfl,.refl _,rfl⟩ ?_
 rintro k env ds B ⟨pre,post,hpp,rfl,e0,e5,e6,e7,rfl,hO,hw⟩
 have hl2:(pre.length:Int)+post.length=l.length:=by rw[hpp];simp
 simp only[Qy]at e0 e5
 cases post with
 |nil=>
  have hlt:¬((pre.length:Int)<l.length):=by simp at hl2;omega
  have hpl:l=pre:=by rw[hpp];simp
  simp only[e0,e5,e6,e7,Q1,seval]
  refine⟨fun h=>absurd h hlt,fun _=> ?_⟩
  refine Q2 (Bg G l hb (by omega) (fun f hf=>by have:=(hl f hf).2.1;omega) (fun f hf=>by have:=(hl f hf).2.2.2.1;omega)) ?_
  have hwl:Us l=true:=by rw[hpl];exact hw
  unfold UY
  rw[fC hwl]
  cases JZ l with
  |false=>
   simp only[Q1,seval]
   exact Qb rfl hO
  |true=>
   simp only[Q1,seval]
   exact Qb rfl hO
 |cons x post=>
  have hlt:((pre.length:Int)<l.length):=by simp at hl2;omega
  have e2:IntKind.i64.wrap ((pre.length:Int)+1)=((pre++[x]).length:Nat):=by rw[Qg (by omega) (by omega)];simp
  simp only[e0,e5,e6,e7,Q1,seval]
  refine⟨fun _=>⟨hlt,?_⟩,fun h=>absurd hlt h⟩
  have hd:(l.flatMap Func.cells).drop (pre.length*3)=Func.cells x++post.flatMap Func.cells:=by rw[hpp,Zg (sz:=3) (fun _=>rfl)];simp
  rw[hd,dM (show(Func.cells x).length=3 from rfl)]
  refine⟨by simp [Func.cells],?_⟩
  intro c hc
  have hx:=hl x (by rw[hpp];simp)
  obtain⟨xn,xp,xb⟩:=x
  obtain⟨y1,y2,y3,y4,y5⟩:=hx
  simp only at y1 y2 y3 y4 y5
  have hO':Z7 A (B.upd c (some (.cells [.str xn,.slice 1 xp.length (xp.flatMap Zl) none,.slice 8 xb.length (xb.flatMap Stmt.cells) none]))):=hO.set (hO.gone hc) (by simp)
  have h128:∀B,Qu Tryz.prog G 128 [.slice 1 xp.length (xp.flatMap Zl) none,.func (.func 134) [] []] B (bo (xp.any fun s=> !Qe s)) B:=fun B=>
   CU G (v:=.str) (p:=fun s=> !Qe s) (fun _=>rfl) rfl rfl (by omega) fun s hs=>k134 G s B (by have:=y3 s hs;omega)
  have h135:∀B,Qu Tryz.prog G 135 [.slice 8 xb.length (xb.flatMap Stmt.cells) none,.func (.func 136) [] []] B (bo (xb.any fun s=> !Uq s)) B:=fun B=>
   CT G (enc:=Stmt.cells) (p:=fun s=> !Uq s) Stmt.cells_len rfl rfl (by omega) fun s hs=>k136 G s (Xc y5 s hs)
  have hbad:(Qe xn&&xp.all Qe&&UX xb)=false→UY l=2:=fun h=>by
   have:Us l=false:=by
    rw[hpp,Us,fK,dU]
    simp only at h⊢
    rw[h];simp
   simp [UY,this]
  have hgood:(Qe xn&&xp.all Qe&&UX xb)=true→Us (pre++[⟨xn,xp,xb⟩])=true:=fun h=>by
   simp only[Us]at hw⊢
   rw[fK,hw,dU,lP,dB,dC];exact h
  rw[Wz,dG (p:=Qe),dG (p:=Uq)]at hbad hgood
  simp only[Func.cells,Qy,Q1,seval]
  refine Q2 (IA G xn _ (by omega)) ?_
  generalize(xp.any fun s=> !Qe s)=pb at*
  generalize(xb.any fun s=> !Uq s)=sb at*
  generalize Qe xn=nb at*
  cases nb with
  |false=>
   simp only[e0,e5,e6,e7,Q1,seval]
   rw[hbad rfl]
   exact Qb rfl hO'
  |true=>
   simp only[e0,e5,e6,e7,Q1,seval]
   refine Q2 (h128 _) ?_
   cases pb with
   |true=>
    simp only[e0,e5,e6,e7,Q1,seval]
    rw[hbad rfl]
    exact Qb rfl hO'
   |false=>
    simp only[e0,e5,e6,e7,Q1,seval]
    refine Q2 (h135 _) ?_
    cases sb with
    |true=>
     simp only[e0,e5,e6,e7,Q1,seval]
     rw[hbad rfl]
     exact Qb rfl hO'
    |false=>
     simp only[e0,e5,e6,e7,e2,Q1,seval]
     exact⟨post.length,by simp,pre++[⟨xn,xp,xb⟩],post,by simp [hpp],rfl,rfl,hO',hgood rfl⟩
end
end Go.Proofs.YtcbjbgaefighcaaGreatDoor
