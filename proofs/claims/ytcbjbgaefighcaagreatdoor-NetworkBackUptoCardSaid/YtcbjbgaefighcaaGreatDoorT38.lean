/- Part 38 of the proof. -/
import Derived.Test.YtcbjbgaefighcaaGreatDoorT0
import Derived.Test.YtcbjbgaefighcaaGreatDoorT16
import Derived.Test.YtcbjbgaefighcaaGreatDoorT26
import Derived.Test.YtcbjbgaefighcaaGreatDoorT30
import Derived.Test.YtcbjbgaefighcaaGreatDoorT33
import Derived.Test.YtcbjbgaefighcaaGreatDoorT34
import Derived.Test.YtcbjbgaefighcaaGreatDoorT36
import Derived.Test.YtcbjbgaefighcaaGreatDoorT37
import Derived.Lib.ItoaLen
set_option linter.all false
namespace Go.Proofs.YtcbjbgaefighcaaGreatDoor
open Go Go.Ax Go.Ax.K Go.Proofs
theorem Rb {sep:Bs}{a b:List Bs}(ha:a≠[]):Lib.join (a++b) sep=Lib.join a sep++Lib.joinTail sep b:=by
 cases a with
 |nil=>exact absurd rfl ha
 |cons x a=>rw[cF,Lib.join_cons,Lib.join_cons];simp [Lib.joinTail]
theorem Pz {sep:Bs}{xs:List Bs}(h:0<xs.length):Lib.join (xs.take (0+1)) sep=Lib.join (xs.take 0) sep++xs[0]:=by
 cases xs with
 |nil=>simp at h
 |cons x r=>simp [Lib.join_one,Lib.join_nil]
theorem Gt {sep:Bs}{xs:List Bs}{i:Nat}(hi:i<xs.length)(h0:0<i):Lib.join (xs.take (i+1)) sep=Lib.join (xs.take i) sep++sep++xs[i]:=by
 have e:=dJ hi
 have h:xs.take i≠[]:=fun e=>by
  have:=congrArg List.length e
  simp only[lJ,cL]at this
  omega
 rw[e,Rb h]
 simp [Lib.joinTail]
theorem E5 {sep:Bs}{xs:List Bs}(i:Nat):(Lib.join (xs.take i) sep).length≤(Lib.join xs sep).length:=by
 by_cases h:xs.take i=[]
 ·rw[h];simp [Lib.join_nil]
 ·have:Lib.join xs sep=Lib.join (xs.take i) sep++Lib.joinTail sep (xs.drop i):=by rw[←Rb h,fY]
  rw[this,cC];omega
theorem Tv (c:UInt8):UN [u8 c]=some [c]:=by simp [UN,u8]
theorem yX {u:Nat}(h:u<2^62):Qf .quo .num (i64 u) (.raw (.int .i64 10))=some (i64 (u / 10:Nat)):=by
 simp only[Qf,Zb,if_true]
 rw[fD (by decide),cO,Qg (by rw[Int.tdiv_eq_ediv_of_nonneg (by omega)];omega) (by rw[Int.tdiv_eq_ediv_of_nonneg (by omega)];omega),Int.tdiv_eq_ediv_of_nonneg (by omega)]
 rfl
theorem yL {u:Nat}:Qf .rem .num (i64 u) (.raw (.int .i64 10))=some (i64 (u % 10:Nat)):=by
 simp only[Qf,Zb,if_true]
 rw[fD (by decide),cO,Int.tmod_eq_emod_of_nonneg (by omega)]
 rfl
section
variable (G:Nat→Option (List AV))
theorem Oi {k:Int}(hk:1≤k∧k≤19)(A:Q3):Qu Tryz.prog G 155 [i64 k] A (i64 (Zd k)) A:=by
 refine Q4 l155 (fE rfl) ?_
 have e:(i64 (Zd k):AV)=i64 (if k=18 then 0 else if k=17 then 1 else if k=16 then 2 else if 10≤k∧k≤15 then 3 else if k=5∨k=6 then 4 else if 7≤k∧k≤9 then 5 else if k=3∨k=4 then 6 else 7):=by
  rcases(show k=1∨k=2∨k=3∨k=4∨k=5∨k=6∨k=7∨k=8∨k=9∨k=10∨k=11∨k=12∨k=13∨k=14∨k=15∨k=16∨k=17∨k=18∨k=19 by omega)with rfl|rfl|rfl|rfl|rfl|rfl|rfl|rfl|rfl|rfl|rfl|rfl|rfl|rfl|rfl|rfl|rfl|rfl|rfl <;> rfl
 rw[e]
 simp only[AL,Q1,seval]
 repeat' refine And.intro (fun _=> ?_) (fun _=> ?_)
 all_goals
  refine Qb ?_ (.refl A)
  repeat' split
  all_goals first|rfl|(exfalso;omega)
theorem r157 {k:Int}(hk:5≤k∧k≤17)(A:Q3):Qu Tryz.prog G 157 [i64 k] A (.str (J4 k).1) A:=by
 refine Q4 l157 (fE rfl) ?_
 simp only[AJ,Q1,seval]
 refine QY (cs:=[.str [43],.str [45],.str [42],.str [47],.str [37],.str [60],.str [60,61],.str [61,61],.str [33,61],.str [62,61],.str [62],.str [38,38],.str [124,124]]) (by kernel_rfl) fun t ht=> ?_
 have w:IntKind.i64.wrap (k - 5)=k - 5:=Qg (by omega) (by omega)
 have i1:0≤k - 5∧k - 5<13:=by omega
 simp only[w,i1.1,i1.2,Q1,seval]
 have hx:(List.drop ((k - 5).toNat*1) [AV.str [43],AV.str [45],AV.str [42],AV.str [47],AV.str [37],AV.str [60],AV.str [60,61],AV.str [61,61],AV.str [33,61],AV.str [62,61],AV.str [62],AV.str [38,38],AV.str [124,124]])[0]? =some (.str (J4 k).1):=by
  rcases(show k=5∨k=6∨k=7∨k=8∨k=9∨k=10∨k=11∨k=12∨k=13∨k=14∨k=15∨k=16∨k=17 by omega)with rfl|rfl|rfl|rfl|rfl|rfl|rfl|rfl|rfl|rfl|rfl|rfl|rfl <;> rfl
 rw[hx]
 simp only[Q1,seval]
 exact Qb rfl ((Z7.refl A).set ht (by simp))
theorem CB (u:Nat){A:Q3}(h:u<2^62):Qu Tryz.prog G 51 [i64 u] A (.str (Lib.decDigits u)) A:=by
 induction u using Nat.strongRecOn generalizing A with
 |_ u ih=>
 refine Q4 l51 (fE rfl) ?_
 unfold C51
 have hb:∀d:Nat,d<10→IntKind.u8.wrap (IntKind.i64.wrap (48+(d:Int)))=((UInt8.ofNat (48+d)).toNat:Int):=fun d hd=>by
  rcases(show d=0∨d=1∨d=2∨d=3∨d=4∨d=5∨d=6∨d=7∨d=8∨d=9 by omega)with rfl|rfl|rfl|rfl|rfl|rfl|rfl|rfl|rfl|rfl <;> rfl
 simp only[Q1,seval]
 refine⟨fun h=>absurd h (by omega),fun _=>⟨fun h10=> ?_,fun h10=> ?_⟩⟩
 ·rw[hb u (by omega)]
  refine QY (cs:=[u8 (UInt8.ofNat (48+u))]) (Jf _ _ rfl rfl) fun t ht=> ?_
  simp only[Tv,Q1,seval]
  exact Qb (by rw[Lib.decDigits,dif_pos (by omega)]) ((Z7.refl A).set ht (by simp))
 ·have hbd:=hb (u % 10) (by omega)
  refine QV (yX h) ?_
  simp only[Q1,seval]
  refine QV yL ?_
  simp only[hbd,Q1,seval]
  have hl:(Lib.decDigits (u / 10)).length≤20:=by rw[Lib.decDigits_length];exact Lib.nDigits_le20 _ (by omega)
  have hd:Lib.decDigits u=Lib.decDigits (u / 10)++[UInt8.ofNat (48+u % 10)]:=by rw[Lib.decDigits,dif_neg (by omega)]
  refine⟨?_,?_⟩
  ·refine Q2 (ih (u / 10) (by omega) (by omega)) ?_
   simp only[Q1,seval]
   refine QY (cs:=[u8 (UInt8.ofNat (48+u % 10))]) (Jf _ _ rfl rfl) fun t ht=> ?_
   simp only[Tv,Q1,seval]
   refine QV (QB (by simp;omega)) ?_
   simp only[Q1,seval]
   exact Qb (by rw[hd]) ((Z7.refl A).set ht (by simp))
  ·refine QY (cs:=[u8 (UInt8.ofNat (48+u % 10))]) (Jf _ _ rfl rfl) fun t ht=> ?_
   simp only[Tv,Q1,seval]
   refine Q2 (ih (u / 10) (by omega) (by omega)) ?_
   simp only[Q1,seval]
   refine QV (QB (by simp;omega)) ?_
   simp only[Q1,seval]
   exact Qb (by rw[hd]) ((Z7.refl A).set ht (by simp))
theorem r51 (n:Int){A:Q3}(h: -(2^61)≤n∧n≤2^61):Qu Tryz.prog G 51 [i64 n] A (.str (Lib.itoa n)) A:=by
 by_cases hn:n<0
 ·refine Q4 l51 (fE rfl) ?_
  unfold C51
  simp only[hn,Q1,seval]
  rw[Qg (by omega) (by omega)]
  obtain⟨u,hu⟩:∃u:Nat,0 - n=u:=⟨n.natAbs,by omega⟩
  have hi:Lib.itoa n=45::Lib.decDigits u:=by rw[show n= -(u:Int)by omega,Lib.itoa_neg u (by omega)]
  have hl:(Lib.decDigits u).length≤20:=by rw[Lib.decDigits_length];exact Lib.nDigits_le20 _ (by omega)
  rw[hu]
  refine Q2 (CB G u (by omega)) ?_
  simp only[Q1,seval]
  exact⟨by omega,Qb (by rw[hi]) (.refl A)⟩
 ·obtain⟨u,rfl⟩:∃u:Nat,n=u:=⟨n.toNat,by omega⟩
  have:=CB G u (A:=A) (by omega)
  rwa [←Lib.itoa_nonneg]at this
theorem r124 {xs:List Bs}{A:Q3}{n:Nat}{cs:List AV}{t:Option Nat}(hn:n=xs.length)(hcs:cs=xs.flatMap Zl)(hlen:xs.length<2^60)(hs:(Lib.join xs [44,32]).length<2^62):
 Qu Tryz.prog G 124 [.slice 1 n cs t] A (.str (Lib.join xs [44,32])) A:=by
 subst hn hcs
 refine Q4 l124 (fE rfl) ?_
 unfold qD
 simp only[Q1,seval]
 refine Ip xs.length (fun i env B=>env 0=.slice 1 xs.length (xs.flatMap Zl) t∧env 3=.str (Lib.join (xs.take i) [44,32])∧env 4=i64 i∧Z7 A B) ⟨rfl,rfl,rfl,.refl A⟩ ?_ ?_ ?_
 ·rintro i env B s hi ⟨e0,e3,e4,hO⟩
  simp only[e0,e3,e4,Q1,seval]
  exact U7 hO
 ·rintro i env B FR hi ⟨e0,e3,e4,hO⟩ _
  have hd:=KE (enc:=Zl) (fun _=>rfl) hi
  have i1:(i:Int)<xs.length:=by omega
  have hp:=E5 (sep:=[44,32]) (xs:=xs) (i+1)
  have w1:IntKind.i64.wrap ((i:Int)+1)=((i+1:Nat):Int):=by rw[Qg (by omega) (by omega)];rfl
  simp only[e0,e3,e4,hd,Nat.mul_one,i1,Zl,w1,Q1,seval]
  refine⟨fun h=> ?_,fun h=> ?_⟩
  ·have hj:=Gt (sep:=[44,32]) hi (by omega)
   rw[hj]at hp⊢
   simp only[cC,cE,cL]at hp⊢
   refine⟨by omega,by omega,?_⟩
   simp [hO]
  ·obtain rfl:i=0:=by omega
   have hj:=Pz (sep:=[44,32]) hi
   rw[hj]at hp⊢
   simp only[cC]at hp
   refine⟨by omega,?_⟩
   simp [hO]
 ·rintro env B ⟨e0,e3,e4,hO⟩
  rw[fT]at e3
  simp only[e3,Q1,seval]
  exact Qb rfl hO
end
section
variable (G:Nat→Option (List AV))
theorem Hw {x:Exp}{l:Nat}{A:Q3}(hT:∀A,Qu Tryz.prog G 74 [.agg x.cells] A (.str (Qh x)) A)(hk:1≤x.kind∧x.kind≤19)(hl:(Qh x).length≤25600)(hl2:l<100):
 Qu Tryz.prog G 156 [.agg x.cells,i64 l] A (.str (Zr l x.kind (Qh x))) A:=by
 have h1:=fun A=>Oi G hk A
 have lx:=Exp.cells_len x
 have tx:x.cells.take 4=x.cells:=by rw[←lx,fT]
 have ox:x.cells.all AV.one=true:=by cases x;rfl
 have x0:x.cells[0]? =some (i64 x.kind):=by cases x;rfl
 generalize x.cells=c at*
 generalize Qh x=T at*
 generalize x.kind=k at*
 refine Q4 l156 (fE rfl) ?_
 unfold AK
 simp only[lx,tx,ox,Q1,seval]
 intro p hp
 have hO:=(Z7.refl A).set hp (o:=some (.cells c)) (by simp)
 have hp:(A.upd p (some (.cells c))) p=some (.cells c):=Q0 ..
 generalize A.upd p (some (.cells c))=B at*
 simp only[hp,x0,Q1,seval]
 refine Q2 (h1 _) ?_
 simp only[hp,lx,tx,Q1,seval]
 unfold Zr
 refine⟨fun h=> ?_,fun h=> ?_⟩
 ·rw[fC (show Zd k<l by omega)]
  refine Q2 (hT _) ?_
  simp only[Q1,seval]
  exact⟨by omega,by omega,Qb rfl hO⟩
 ·rw[fD (show¬Zd k<l by omega)]
  refine Q2 (hT _) ?_
  simp only[Q1,seval]
  exact Qb rfl hO
def I6 (x:Exp):Prop:=(∀A,Qu Tryz.prog G 74 [.agg x.cells] A (.str (Qh x)) A)∧(1≤x.kind∧x.kind≤19)∧(Qh x).length≤25600
theorem qY {n:Bs}{i:Int}{a b c:Exp}{A:Q3}(ha:I6 G a)(hb:I6 G b)(hc:I6 G c):Qu Tryz.prog G 74 [.agg (Exp.mk 18 n i [a,b,c]).cells] A (.str (Qh (.mk 18 n i [a,b,c]))) A:=by
 have p1:∀A,Qu Tryz.prog G 156 [.agg a.cells,i64 1] A (.str (Zr 1 a.kind (Qh a))) A:=fun A=>Hw G (l:=1) (A:=A) ha.1 ha.2.1 ha.2.2 (by omega)
 have p2:∀A,Qu Tryz.prog G 156 [.agg b.cells,i64 0] A (.str (Zr 0 b.kind (Qh b))) A:=fun A=>Hw G (l:=0) (A:=A) hb.1 hb.2.1 hb.2.2 (by omega)
 have p3:∀A,Qu Tryz.prog G 156 [.agg c.cells,i64 0] A (.str (Zr 0 c.kind (Qh c))) A:=fun A=>Hw G (l:=0) (A:=A) hc.1 hc.2.1 hc.2.2 (by omega)
 refine Q4 Tg (fE rfl) ?_
 have e:(Exp.mk 18 n i [a,b,c]).cells=[i64 18,.str n,i64 i,.slice 4 3 (a.cells++(b.cells++c.cells)) none]:=by simp [Exp.cells,Exp.cellsL]
 have et:Qh (.mk 18 n i [a,b,c])=Zr 1 a.kind (Qh a)++[32,63,32]++Qh b++[32,58,32]++Qh c:=rfl
 have eb:Zr 0 b.kind (Qh b)=Qh b:=by rw[Zr,fD (by omega)]
 have ec:Zr 0 c.kind (Qh c)=Qh c:=by rw[Zr,fD (by omega)]
 have l1:=XD (l:=1) (k:=a.kind) (t:=Qh a)
 have la2:=ha.2.2
 have lb2:=hb.2.2
 have lc2:=hc.2.2
 rw[e,et]
 rw[eb]at p2
 rw[ec]at p3
 have la:=Exp.cells_len a
 have lb:=Exp.cells_len b
 have lc:=Exp.cells_len c
 generalize a.cells=ca at*
 generalize b.cells=cb at*
 generalize c.cells=cc at*
 generalize Zr 1 a.kind (Qh a)=ta at*
 generalize Qh b=tb at*
 generalize Qh c=tc at*
 have D4:(ca++(cb++cc)).drop 4=cb++cc:=by rw[←la,List.drop_left]
 have D8:(ca++(cb++cc)).drop 8=cc:=by rw[show 8=4+4 from rfl,←lC,D4,←lb,List.drop_left]
 have T1:(ca++(cb++cc)).take 4=ca:=by rw[←la,List.take_left]
 have T2:(cb++cc).take 4=cb:=by rw[←lb,List.take_left]
 have T3:cc.take 4=cc:=by rw[←lc,fT]
 unfold M8
 simp only[Q1,seval]
 intro p hp
 have hO:=(Z7.refl A).set hp (o:=some (.cells [i64 18,.str n,i64 i,.slice 4 3 (ca++(cb++cc)) none])) (by simp)
 have hp:(A.upd p (some (.cells [i64 18,.str n,i64 i,.slice 4 3 (ca++(cb++cc)) none]))) p=some (.cells [i64 18,.str n,i64 i,.slice 4 3 (ca++(cb++cc)) none]):=Q0 ..
 generalize A.upd p (some (.cells [i64 18,.str n,i64 i,.slice 4 3 (ca++(cb++cc)) none]))=B at*
 refine Q2 (Oi G (by omega) _) ?_
 simp only[hp,D4,D8,T1,T2,T3,la,lb,lc,cC,Q1,seval]
 refine Q2 (p1 _) ?_
 simp only[hp,QW,Q1,seval]
 refine QV (QB (by simp;omega)) ?_
 simp only[hp,QW,Q1,seval]
 refine Q2 (p2 _) ?_
 simp only[hp,QW,Q1,seval]
 refine QV (QB (by simp;omega)) ?_
 simp only[Q1,seval]
 refine QV (QB (by simp;omega)) ?_
 simp only[hp,QW,Q1,seval]
 refine Q2 (p3 _) ?_
 simp only[Q1,seval]
 refine QV (QB (by simp;omega)) ?_
 simp only[Q1,seval]
 exact Qb (by simp) hO
theorem qX {k:Int}(hk:5≤k∧k≤17){n:Bs}{i:Int}{a b:Exp}{A:Q3}(ha:I6 G a)(hb:I6 G b):Qu Tryz.prog G 74 [.agg (Exp.mk k n i [a,b]).cells] A (.str (Qh (.mk k n i [a,b]))) A:=by
 have hkr:Zd k=(J4 k).2∧Zd k≤5∧(J4 k).1.length≤2:=by
  rcases(show k=5∨k=6∨k=7∨k=8∨k=9∨k=10∨k=11∨k=12∨k=13∨k=14∨k=15∨k=16∨k=17 by omega)with rfl|rfl|rfl|rfl|rfl|rfl|rfl|rfl|rfl|rfl|rfl|rfl|rfl <;> exact⟨rfl,by decide,by decide⟩
 have p1:=fun A=>Hw G (l:=if Zd k=3 then 4 else Zd k) (A:=A) ha.1 ha.2.1 ha.2.2 (by split <;> omega)
 have p2:=fun A=>Hw G (l:=Zd k+1) (A:=A) hb.1 hb.2.1 hb.2.2 (by omega)
 have e:(Exp.mk k n i [a,b]).cells=[i64 k,.str n,i64 i,.slice 4 2 (a.cells++b.cells) none]:=by simp [Exp.cells,Exp.cellsL]
 have et:Qh (Exp.mk k n i [a,b])=Zr (if Zd k=3 then 4 else Zd k) a.kind (Qh a)++[32]++(J4 k).1++[32]++Zr (Zd k+1) b.kind (Qh b):=by
  simp only[Qh,Tl,V0]
  rw[fD (by omega),fD (by omega),fD (by omega),fD (by omega),fD (by omega),fD (by omega)]
  rfl
 have l1:=XD (l:=if Zd k=3 then 4 else Zd k) (k:=a.kind) (t:=Qh a)
 have l2:=XD (l:=Zd k+1) (k:=b.kind) (t:=Qh b)
 have la2:=ha.2.2
 have lb2:=hb.2.2
 rw[e,et]
 have la:=Exp.cells_len a
 have lb:=Exp.cells_len b
 have h1:=fun A=>Oi G (k:=k) (by omega) A
 have h2:=fun A=>r157 G hk A
 generalize a.cells=ca at*
 generalize b.cells=cb at*
 generalize Zr (if Zd k=3 then 4 else Zd k) a.kind (Qh a)=ta at*
 generalize Zr (Zd k+1) b.kind (Qh b)=tb at*
 generalize hop:(J4 k).1=op at*
 have D4:(ca++cb).drop 4=cb:=by rw[←la,List.drop_left]
 have T1:(ca++cb).take 4=ca:=by rw[←la,List.take_left]
 have T2:cb.take 4=cb:=by rw[←lb,fT]
 have n1:¬k=1:=by omega
 have n2:¬k=2:=by omega
 have n3:¬k=3:=by omega
 have n4:¬k=4:=by omega
 have n5:¬k=18:=by omega
 have n6:¬k=19:=by omega
 refine Q4 Tg (fE rfl) ?_
 unfold M8
 simp only[Q1,seval]
 intro p hp
 have hO:=(Z7.refl A).set hp (o:=some (.cells [i64 k,.str n,i64 i,.slice 4 2 (ca++cb) none])) (by simp)
 have hp:(A.upd p (some (.cells [i64 k,.str n,i64 i,.slice 4 2 (ca++cb) none]))) p=some (.cells [i64 k,.str n,i64 i,.slice 4 2 (ca++cb) none]):=Q0 ..
 generalize A.upd p (some (.cells [i64 k,.str n,i64 i,.slice 4 2 (ca++cb) none]))=B at*
 refine Q2 (h1 _) ?_
 have w:IntKind.i64.wrap ((Zd k:Int)+1)=((Zd k+1:Nat):Int):=by rw[Qg (by omega) (by omega)];rfl
 simp only[hp,n1,n2,n3,n4,n5,n6,Q1,seval]
 refine⟨fun h=> ?_,fun h=> ?_⟩
 ·rw[fC (by omega)]at p1
  simp only[hp,D4,T1,T2,la,lb,cC,w,Q1,seval]
  refine Q2 (p1 _) ?_
  simp only[hp,QW,Q1,seval]
  refine QV (QB (by simp;omega)) ?_
  simp only[hp,QW,Q1,seval]
  refine Q2 (h2 _) ?_
  simp only[hp,QW,Q1,seval]
  refine QV (QB (by simp;omega)) ?_
  simp only[Q1,seval]
  refine QV (QB (by simp;omega)) ?_
  simp only[hp,QW,Q1,seval]
  refine Q2 (p2 _) ?_
  simp only[Q1,seval]
  refine QV (QB (by simp;omega)) ?_
  simp only[Q1,seval]
  exact Qb (by simp) hO
 ·rw[fD (by omega)]at p1
  simp only[hp,D4,T1,T2,la,lb,cC,w,Q1,seval]
  refine Q2 (p1 _) ?_
  simp only[hp,QW,Q1,seval]
  refine QV (QB (by simp;omega)) ?_
  simp only[hp,QW,Q1,seval]
  refine Q2 (h2 _) ?_
  simp only[hp,QW,Q1,seval]
  refine QV (QB (by simp;omega)) ?_
  simp only[Q1,seval]
  refine QV (QB (by simp;omega)) ?_
  simp only[hp,QW,Q1,seval]
  refine Q2 (p2 _) ?_
  simp only[Q1,seval]
  refine QV (QB (by simp;omega)) ?_
  simp only[Q1,seval]
  exact Qb (by simp) hO
theorem F7 {n:Bs}{i:Int}{xs:List Exp}{A:Q3}(hx:∀x∈xs,I6 G x)(hlen:xs.length≤400)(hn:n.length≤100)(hj:(Lib.join (xs.map Qh) [44,32]).length≤25600):
 Qu Tryz.prog G 74 [.agg (Exp.mk 19 n i xs).cells] A (.str (Qh (.mk 19 n i xs))) A:=by
 have e:(Exp.mk 19 n i xs).cells=[i64 19,.str n,i64 i,.slice 4 xs.length (xs.flatMap Exp.cells) none]:=by simp [Exp.cells,Exp.cellsL_eq]
 have et:Qh (.mk 19 n i xs)=n++[40]++Lib.join (xs.map Qh) [44,32]++[41]:=by simp [Qh,V0,WA]
 have h124:=fun A=>r124 G (xs:=xs.map Qh) (A:=A) (t:=none) rfl rfl (by rw[lG];omega) (by omega)
 rw[e,et]
 refine Q4 Tg (fE rfl) ?_
 unfold M8
 simp only[Q1,seval]
 intro p hp
 have hO:=(Z7.refl A).set hp (o:=some (.cells [i64 19,.str n,i64 i,.slice 4 xs.length (xs.flatMap Exp.cells) none])) (by simp)
 have hp:(A.upd p (some (.cells [i64 19,.str n,i64 i,.slice 4 xs.length (xs.flatMap Exp.cells) none]))) p=some (.cells [i64 19,.str n,i64 i,.slice 4 xs.length (xs.flatMap Exp.cells) none]):=Q0 ..
 generalize A.upd p (some (.cells [i64 19,.str n,i64 i,.slice 4 xs.length (xs.flatMap Exp.cells) none]))=B at*
 refine Q2 (Oi G (by omega) _) ?_
 simp only[hp,Q1,seval]
 refine Ip xs.length (fun i env B'=>env 1=.ptr p 0∧env 5=i64 i∧Z7 B B'∧∃v τ,env 4=v∧SlW 1 Zl ((xs.map Qh).take i) v τ∧Tips B [] [τ] B') ⟨rfl,rfl,.refl _,_,none,rfl,.inl ⟨rfl,rfl,rfl⟩,EW⟩ ?_ ?_ ?_
 ·rintro i env B' s hi ⟨e1,e5,hO',v,τ,e4,hv,hT⟩
  have hp:=hO'.keep hp
  simp only[e1,e4,e5,hp,Q1,seval]
  exact U7 ⟨hO',v,τ,rfl,hv,hT⟩
 ·rintro i env B' FR hi ⟨e1,e5,hO',v,τ,e4,hv,hT⟩ _
  have hp:=hO'.keep hp
  have hd:=J6 (enc:=Exp.cells) (sz:=4) Exp.cells_len hi
  have i1:(i:Int)<xs.length:=by omega
  have hw:IntKind.i64.wrap ((i:Int)+1)=((i+1:Nat):Int):=by rw[Qg (by omega) (by omega)];simp
  have c4:(xs[i].cells++(List.drop (i+1) xs).flatMap Exp.cells).take 4=xs[i].cells:=by rw[←Exp.cells_len xs[i],List.take_left]
  have hTx:=(hx xs[i] (cV hi)).1
  have htk:(xs.map Qh).take (i+1)=(xs.map Qh).take i++[Qh xs[i]]:=by rw[dJ (by rw[lG];exact hi),List.getElem_map]
  have htl:((xs.map Qh).take i).length≤400:=by rw[lJ,lG];omega
  simp only[e1,e4,e5,hp,hd,i1,c4,Q1,seval]
  refine Q2 (hTx _) ?_
  simp only[Q1,seval]
  refine QY (cs:=[.str (Qh xs[i])]) (Jf _ _ rfl rfl) fun t ht=> ?_
  simp only[ZB,Q1,seval]
  refine Cv (enc:=Zl) (y:=Qh xs[i]) (i:=0) hv (hT.new (some .tip) ht) rfl (hO'.set (hO'.gone ht) (by simp)) (by simp) (by omega) rfl (Y6 _) fun v' τ' B'' q1 q2 q3 q4=> ?_
  simp only[e1,e5,hw,Q1,seval]
  exact⟨q3,_,τ',rfl,by rw[htk];exact q1,q2⟩
 ·rintro env B' ⟨e1,e5,hO',v,τ,e4,hv,hT⟩
  have hp:=hO'.keep hp
  rw[show xs.length=(xs.map Qh).length by rw[lG],fT]at hv
  simp only[e1,e4,hp,Q1,seval]
  refine QV (QB (by simp;omega)) ?_
  simp only[e4,Q1,seval]
  refine Q2 (Qt.wk (.cons hv.wk .nil) (h124 _)) ?_
  simp only[hp,QW,Q1,seval]
  refine QV (QB (by simp;omega)) ?_
  simp only[Q1,seval]
  refine QV (QB (by simp;omega)) ?_
  simp only[Q1,seval]
  exact Qb (by simp) (Z7.trans hO hO')
theorem EZ {n:Bs}{i:Int}{xs:List Exp}{A:Q3}(hi:ZJ i=true):Qu Tryz.prog G 74 [.agg (Exp.mk 1 n i xs).cells] A (.str (Qh (.mk 1 n i xs))) A:=by
 simp only[ZJ,dZ]at hi
 have e:(Exp.mk 1 n i xs).cells=[i64 1,.str n,i64 i,.slice 4 xs.length (xs.flatMap Exp.cells) none]:=by simp [Exp.cells,Exp.cellsL_eq]
 have et:Qh (.mk 1 n i xs)=Lib.itoa i:=rfl
 rw[e,et]
 refine Q4 Tg (fE rfl) ?_
 unfold M8
 simp only[Q1,seval]
 intro p hp
 have hO:=(Z7.refl A).set hp (o:=some (.cells [i64 1,.str n,i64 i,.slice 4 xs.length (xs.flatMap Exp.cells) none])) (by simp)
 have hp:(A.upd p (some (.cells [i64 1,.str n,i64 i,.slice 4 xs.length (xs.flatMap Exp.cells) none]))) p=some (.cells [i64 1,.str n,i64 i,.slice 4 xs.length (xs.flatMap Exp.cells) none]):=Q0 ..
 generalize A.upd p (some (.cells [i64 1,.str n,i64 i,.slice 4 xs.length (xs.flatMap Exp.cells) none]))=B at*
 refine Q2 (Oi G (by omega) _) ?_
 simp only[hp,Q1,seval]
 refine Q2 (r51 G i (by omega)) ?_
 simp only[Q1,seval]
 exact Qb rfl hO
theorem F6 {n:Bs}{i:Int}{xs:List Exp}{A:Q3}:Qu Tryz.prog G 74 [.agg (Exp.mk 2 n i xs).cells] A (.str (Qh (.mk 2 n i xs))) A:=by
 have e:(Exp.mk 2 n i xs).cells=[i64 2,.str n,i64 i,.slice 4 xs.length (xs.flatMap Exp.cells) none]:=by simp [Exp.cells,Exp.cellsL_eq]
 have et:Qh (.mk 2 n i xs)=n:=rfl
 rw[e,et]
 refine Q4 Tg (fE rfl) ?_
 unfold M8
 simp only[Q1,seval]
 intro p hp
 have hO:=(Z7.refl A).set hp (o:=some (.cells [i64 2,.str n,i64 i,.slice 4 xs.length (xs.flatMap Exp.cells) none])) (by simp)
 have hp:(A.upd p (some (.cells [i64 2,.str n,i64 i,.slice 4 xs.length (xs.flatMap Exp.cells) none]))) p=some (.cells [i64 2,.str n,i64 i,.slice 4 xs.length (xs.flatMap Exp.cells) none]):=Q0 ..
 generalize A.upd p (some (.cells [i64 2,.str n,i64 i,.slice 4 xs.length (xs.flatMap Exp.cells) none]))=B at*
 refine Q2 (Oi G (by omega) _) ?_
 simp only[hp,Q1,seval]
 exact Qb rfl hO
theorem EX {n:Bs}{i:Int}{a:Exp}{A:Q3}(ha:I6 G a):Qu Tryz.prog G 74 [.agg (Exp.mk 4 n i [a]).cells] A (.str (Qh (.mk 4 n i [a]))) A:=by
 have p1:∀A,Qu Tryz.prog G 156 [.agg a.cells,i64 6] A (.str (Zr 6 a.kind (Qh a))) A:=fun A=>Hw G (l:=6) (A:=A) ha.1 ha.2.1 ha.2.2 (by omega)
 have e:(Exp.mk 4 n i [a]).cells=[i64 4,.str n,i64 i,.slice 4 1 a.cells none]:=by simp [Exp.cells,Exp.cellsL]
 have et:Qh (.mk 4 n i [a])=33::Zr 6 a.kind (Qh a):=rfl
 have l1:=XD (l:=6) (k:=a.kind) (t:=Qh a)
 have la2:=ha.2.2
 rw[e,et]
 have la:=Exp.cells_len a
 generalize a.cells=ca at*
 generalize Zr 6 a.kind (Qh a)=ta at*
 have T1:ca.take 4=ca:=by rw[←la,fT]
 refine Q4 Tg (fE rfl) ?_
 unfold M8
 simp only[Q1,seval]
 intro p hp
 have hO:=(Z7.refl A).set hp (o:=some (.cells [i64 4,.str n,i64 i,.slice 4 1 ca none])) (by simp)
 have hp:(A.upd p (some (.cells [i64 4,.str n,i64 i,.slice 4 1 ca none]))) p=some (.cells [i64 4,.str n,i64 i,.slice 4 1 ca none]):=Q0 ..
 generalize A.upd p (some (.cells [i64 4,.str n,i64 i,.slice 4 1 ca none]))=B at*
 refine Q2 (Oi G (by omega) _) ?_
 simp only[hp,T1,la,Q1,seval]
 refine Q2 (p1 _) ?_
 simp only[Q1,seval]
 exact⟨by omega,Qb rfl hO⟩
theorem EY {n:Bs}{i:Int}{a:Exp}{A:Q3}(ha:I6 G a):Qu Tryz.prog G 74 [.agg (Exp.mk 3 n i [a]).cells] A (.str (Qh (.mk 3 n i [a]))) A:=by
 have p0:=ha.1
 have p1:∀A,Qu Tryz.prog G 156 [.agg a.cells,i64 6] A (.str (Zr 6 a.kind (Qh a))) A:=fun A=>Hw G (l:=6) (A:=A) ha.1 ha.2.1 ha.2.2 (by omega)
 have e:(Exp.mk 3 n i [a]).cells=[i64 3,.str n,i64 i,.slice 4 1 a.cells none]:=by simp [Exp.cells,Exp.cellsL]
 have et:Qh (.mk 3 n i [a])=45::Zr (if a.kind=1∧0≤a.int then 8 else 6) a.kind (Qh a):=rfl
 have l1:=XD (l:=6) (k:=a.kind) (t:=Qh a)
 have la2:=ha.2.2
 have e8:a.kind=1→Zr 8 a.kind (Qh a)=40::(Qh a++[41]):=fun h=>by rw[h,Zr,fC (by decide)]
 rw[e,et]
 obtain⟨ak,an,ai,ax⟩:=a
 have ec:(Exp.mk ak an ai ax).cells=[i64 ak,.str an,i64 ai,.slice 4 ax.length (ax.flatMap Exp.cells) none]:=by rw[Exp.cells,Exp.cellsL_eq]
 rw[ec]at p0 p1⊢
 simp only[Exp.kind,Exp.int]at*
 generalize Qh (.mk ak an ai ax)=ta at*
 refine Q4 Tg (fE rfl) ?_
 unfold M8
 simp only[Q1,seval]
 intro p hp
 have hO:=(Z7.refl A).set hp (o:=some (.cells [i64 3,.str n,i64 i,.slice 4 1 [i64 ak,.str an,i64 ai,.slice 4 ax.length (ax.flatMap Exp.cells) none] none])) (by simp)
 have hp:(A.upd p (some (.cells [i64 3,.str n,i64 i,.slice 4 1 [i64 ak,.str an,i64 ai,.slice 4 ax.length (ax.flatMap Exp.cells) none] none]))) p=some (.cells [i64 3,.str n,i64 i,.slice 4 1 [i64 ak,.str an,i64 ai,.slice 4 ax.length (ax.flatMap Exp.cells) none] none]):=Q0 ..
 generalize A.upd p (some (.cells [i64 3,.str n,i64 i,.slice 4 1 [i64 ak,.str an,i64 ai,.slice 4 ax.length (ax.flatMap Exp.cells) none] none]))=B at*
 refine Q2 (Oi G (by omega) _) ?_
 simp only[hp,Q1,seval]
 refine⟨fun h=>⟨fun h2=> ?_,fun h2=> ?_⟩,fun h=> ?_⟩
 ·rw[fC ⟨h,h2⟩,e8 h]
  refine Q2 (p0 _) ?_
  simp only[Q1,seval]
  exact⟨by omega,by omega,Qb rfl hO⟩
 ·rw[fD (by omega)]
  refine Q2 (p1 _) ?_
  simp only[Q1,seval]
  exact⟨by omega,Qb rfl hO⟩
 ·rw[fD (by omega)]
  refine Q2 (p1 _) ?_
  simp only[Q1,seval]
  exact⟨by omega,Qb rfl hO⟩
theorem TH {α:Type}{w:α→Nat}:∀{l:List α} {a:α},a∈l→w a≤Jd w l
 |b::l,a,h=>by
  rw[JJ]
  rcases dT.1 h with rfl|h
  ·omega
  ·have:=TH (w:=w) h;omega
theorem DR {k i:Int}{n:Bs}{m:Nat}(h:Yf k n i m=true):1≤k∧k≤19:=by
 have h1:=(UG.1 h).1
 unfold M6 at h1
 have h2:=h1.1
 rw[OQ]at h2
 by_cases a1:k=1∨k=2
 ·omega
 rw[fD a1]at h2
 by_cases a2:k=3∨k=4
 ·omega
 rw[fD a2]at h2
 by_cases a3:5≤k∧k≤17
 ·omega
 rw[fD a3]at h2
 by_cases a4:k=18
 ·omega
 rw[fD a4]at h2
 by_cases a5:k=19
 ·omega
 rw[fD a5]at h2
 exact absurd rfl h2
theorem r74 (x:Exp)(hw:ZC x=true)(hs:YK x≤400):I6 G x:=by
 generalize hn:SizeOf.sizeOf x=sz
 induction sz using Nat.strongRecOn generalizing x with
 |_ sz ih=>
 have hlen:=LL x hw
 obtain⟨k,n,i,xs⟩:=x
 rw[VZ]at hs
 rw[VZ]at hlen
 simp only[ZC,cD]at hw
 obtain⟨hh,hws⟩:=hw
 have hk:=DR hh
 rw[Xb,cH]at hws
 have hxs:∀y∈xs,I6 G y:=fun y hy=>by
  have h1:=TH (w:=YK) hy
  have h2:=cY hy
  exact ih (SizeOf.sizeOf y) (by rw[←hn];simp only[Exp.mk.sizeOf_spec];omega) y (hws y hy) (by omega) rfl
 have hl400:xs.length≤400:=by
  have:=IJ (w:=YK) (fun a=>(UE a).1) xs
  omega
 refine⟨fun A=> ?_,hk,by omega⟩
 have hh':=UG.1 hh
 have hq:=hh'.1
 unfold M6 at hq
 obtain⟨q1,q2,q3,q4,q5⟩:=hq
 rw[OQ]at q2
 by_cases k1:k=1
 ·subst k1;exact EZ G (by simp only[ZJ,dZ];omega)
 by_cases k2:k=2
 ·subst k2;exact F6 G
 by_cases k3:k=3
 ·subst k3
  obtain⟨a,rfl⟩:∃a,xs=[a]:=fZ.1 (by have:=q2 (by decide);simp at this;omega)
  exact EY G (hxs a (by simp))
 by_cases k4:k=4
 ·subst k4
  obtain⟨a,rfl⟩:∃a,xs=[a]:=fZ.1 (by have:=q2 (by decide);simp at this;omega)
  exact EX G (hxs a (by simp))
 by_cases k18:k=18
 ·subst k18
  obtain⟨a,b,c,rfl⟩:∃a b c,xs=[a,b,c]:=by
   have:xs.length=3:=by have:=q2 (by decide);simp at this;omega
   match xs,this with
   |[a,b,c],_=>exact⟨a,b,c,rfl⟩
  exact qY G (hxs a (by simp)) (hxs b (by simp)) (hxs c (by simp))
 by_cases M5:k=19
 ·subst M5
  have hnm:=hh'.2
  rw[fC (by omega)]at hnm
  have:=Qz hnm
  refine F7 G hxs hl400 (by omega) ?_
  have et:Qh (.mk 19 n i xs)=n++[40]++Lib.join (xs.map Qh) [44,32]++[41]:=by simp [Qh,V0,WA]
  rw[et]at hlen
  simp only[cC,cE,cL]at hlen
  omega
 have k5:5≤k∧k≤17:=by omega
 rw[fD (by omega),fD (by omega),fC k5]at q2
 obtain⟨a,b,rfl⟩:∃a b,xs=[a,b]:=by
  have:xs.length=2:=by have:=q2 (by omega);omega
  match xs,this with
  |[a,b],_=>exact⟨a,b,rfl⟩
 exact qX G k5 (hxs a (by simp)) (hxs b (by simp))
theorem r20 (x:Exp){A:Q3}(h:VS x)(hs:(Z8 x).nodes<2^61):Qu Tryz.prog G 20 [.agg x.cells] A (.tuple [.str (if Yc x=0 then Qh x else[]),i64 (Yc x)]) A:=by
 refine Q4 l20 (fE rfl) ?_
 have lx:=Exp.cells_len x
 have tx:x.cells.take 4=x.cells:=by rw[←lx,fT]
 have ox:x.cells.all AV.one=true:=by cases x;rfl
 have h1:=fun A=>r73 G x (A:=A) h hs
 have h2:Yc x=0→∀A,Qu Tryz.prog G 74 [.agg x.cells] A (.str (Qh x)) A:=fun hc=>by
  have hw:ZC x=true:=by
   cases hw:ZC x with
   |true=>rfl
   |false=>unfold Yc at hc;rw[hw]at hc;simp at hc
  have hsm:Zm x=true:=by
   cases hsm:Zm x with
   |true=>rfl
   |false=>unfold Yc at hc;rw[hw,hsm]at hc;simp at hc
  have:Zm x=(decide ((Z8 x).nodes≤400)&&decide ((Z8 x).depth≤30)&& !(Z8 x).wide):=rfl
  rw[hsm]at this
  have:=this.symm
  simp only[cD,dZ]at this
  exact(r74 G x hw this.1.1).1
 generalize x.cells=c at*
 unfold C20
 simp only[lx,tx,ox,Q1,seval]
 intro p hp
 have hO:=(Z7.refl A).set hp (o:=some (.cells c)) (by simp)
 have hp:(A.upd p (some (.cells c))) p=some (.cells c):=Q0 ..
 generalize A.upd p (some (.cells c))=B at*
 refine Q2 (h1 _) ?_
 simp only[Q1,seval]
 refine⟨fun hc=> ?_,fun hc=> ?_⟩
 ·rw[fC hc,hc]
  simp only[hp,lx,tx,Q1,seval]
  refine Q2 (h2 hc _) ?_
  simp only[Q1,seval]
  exact Qb rfl hO
 ·rw[fD hc]
  exact Qb rfl hO
end
end Go.Proofs.YtcbjbgaefighcaaGreatDoor
namespace Go.Proofs.YtcbjbgaefighcaaGreatDoor
open Go Go.Ax Go.Proofs
def Od (x:Exp):Edge:=⟨[65],[65],[],x,[],false,[⟨[118],x⟩,⟨[119],x⟩],[],0,0⟩
def O5 (x:Exp):Model:=⟨[109],[],[],[],[],[⟨[80],[65],[⟨[65],0,[],0⟩],[Od x]⟩]⟩
def bk1:Bs:=[109,111,100,101,108,32,109,59,32,112,114,111,99,101,115,115,32,80,32,105,110,105,116,32,65,32,123,32,108,111,99,32,65,59,32,101,100,103,101,32,65,32,45,62,32,65,32,105,102,32]
def Tj:Bs:=[32,100,111,32,118,32,61,32]
def Ti:Bs:=[44,32,119,32,61,32]
def Oc (t:Bs):Bs:=bk1++t++Tj++t++Ti++t++[59,32,125]
theorem EM {x:Exp}(h:ZC x=true):isNone x=false:=by
 cases hn:isNone x with
 |false=>rfl
 |true=>rw[ME hn]at h;cases h
theorem qS {x:Exp}(h:ZC x=true):Y2 (Od x)=true:=by
 simp only[Od,Y2,h,dQ,dU,lP]
 decide
theorem qW {x:Exp}(h:ZC x=true):Vi (Od x)=9::((JF++[32,65,32,45,62,32,65,32,105,102,32]++Qh x++Tj++Qh x++Ti++Qh x)++[59,10]):=by
 simp [Vi,Od,EM h,QO,Tj,Ti,VR,JM,VA,Lib.join_cons,Lib.joinTail]
theorem Dc {x:Exp}(h:ZC x=true):∃K,∀N,K≤N→X7 N (skip (Oc (Qh x)))=.ok (O5 x) []:=by
 have hb:skip (32::125::[])=[125]++[]:=rfl
 obtain⟨he,K1,h1⟩:=TQ (qS h) (qW h) (32::125::[])
 generalize hE:JF++[32,65,32,45,62,32,65,32,105,102,32]++Qh x++Tj++Qh x++Ti++Qh x=E at*
 obtain⟨hl,K2,h2⟩:=Sr (l:=⟨[65],0,[],0⟩) (by decide) (t:=JD++[32,65]) rfl (32::(E++59::32::125::[]))
 have e:Oc (Qh x)=UI++(32::([109]++(59::(32::(ZQ++(32::([80]++(32::(V1++(32::([65]++(32::123::(32::((JD++[32,65])++59::(32::(E++59::32::125::[])))))))))))))))):=by
  rw[←hE]
  simp [Oc,bk1,Tj,Ti,UI,ZQ,V1,JD,JF]
 rw[QR]at h2
 refine⟨max (max K1 K2) 5,fun N hN=> ?_⟩
 obtain⟨g,rfl⟩:∃g,N=g+3:=⟨N - 3,by omega⟩
 have h1':=h1 (g+3) (by omega)
 have h2':=h2 (g+3) (by omega)
 simp only at h1' h2'
 generalize hR:32::(E++59::32::125::[])=R at*
 have hm:=XG (w:=UI) (r:=32::([109]++(59::(32::(ZQ++(32::([80]++(32::(V1++(32::([65]++(32::123::(32::((JD++[32,65])++59::R)))))))))))))) rfl (Qq rfl) e
 have hp:=XG (w:=ZQ) (r:=32::([80]++(32::(V1++(32::([65]++(32::123::(32::((JD++[32,65])++59::R))))))))) rfl (Qq rfl) rfl
 have hi:ZA V1 (32::([65]++(32::123::(32::((JD++[32,65])++59::R))))):=Vn rfl (Qq rfl)
 have n1:Qe [109]=true:=rfl
 have n2:Qe [80]=true:=rfl
 have n3:Qe [65]=true:=rfl
 have hbr:Ql [123] (skip (32::123::(32::((JD++[32,65])++59::R))))=.ok () (skip ((JD++[32,65])++59::R)):=by
  rw[QR,Vu rfl rfl (by decide),QR]
 have hproc:Xp (g+3) ([80]++(32::(V1++(32::([65]++(32::123::(32::((JD++[32,65])++59::R))))))))=.ok ⟨[80],[65],[⟨[65],0,[],0⟩],[Od x]⟩ []:=by
  rw[Xp,JG n2 (Qq rfl),Q7,QR,JR (w:=V1) rfl,VW hi,Q7,QR,(ZG n3).skip_app,JG n3 (Qq rfl),Q7,hbr,Q7]
  rw[Jg,fC hl,h2',Q7,Jg,fD (by rw[he];decide),Q7,Jg,fC he,h1',Q7,hb,Jg,fD (by decide),Q7]
  rfl
 rw[X7,Ql,fC hm.1,Q7,hm.2,QR,(ZG n1).skip_app,JG n1 (Qq rfl),Q7,Tb,Q7,QR]
 have hdn:Yp (g+3) (skip (ZQ++(32::([80]++(32::(V1++(32::([65]++(32::123::(32::((JD++[32,65])++59::R)))))))))))=none:=by
  rw[Yp,fD (by rw[hp.1];decide),fD (by rw[hp.1];decide),fD (by rw[hp.1];decide),fD (by rw[hp.1];decide),fD (by rw[hp.1];decide)]
 rw[Jc,hdn]
 simp only[Q7]
 rw[U6,fD (by rw[hp.1];decide),Q7,Jg,fC hp.1,hp.2,QR,(ZG n2).skip_app,hproc,Q7,Jg,fD (by decide),Q7,fC rfl]
 rfl
theorem Pm {x:Exp}(h:ZC x=true)(hs:Zm x=true)(hl:(Oc (Qh x)).length≤20000):∃N,10*(Oc (Qh x)).length+11≤N∧U5 N (Oc (Qh x))=(O5 x,0,0):=by
 obtain⟨K,hK⟩:=Dc h
 refine⟨max K (10*(Oc (Qh x)).length+11),by omega,?_⟩
 rw[U5,fD (by omega),hK _ (by omega)]
 have:Ub (O5 x)=true:=by
  have hf:Uj (Od x)=true:=by simp [Uj,Od,hs]
  simp only[Ub,O5,dU,lP,Xu,hf]
  rfl
 simp only[this,if_true]
open Go.Ax.K
theorem Rr (N:Nat)(s:Bs):(∃m,U5 N s=(m,0,0)∧Vo m=0∧LtM m)∨∃(a:Nat) (e:Int),U5 N s=(Wr,(a:Int),e)∧e≠0∧a≤s.length:=by
 unfold U5
 split
 ·exact .inr ⟨0,3,rfl,by decide,lO _⟩
 ·rename_i hl
  cases hp:X7 N (skip s)with
  |bad u=>exact .inr ⟨s.length - u.length,80,rfl,by decide,Nat.sub_le _ _⟩
  |ok m u=>
   have h:=(Rf s (skip s) m u (At.skip (List.suffix_refl s)) (by omega) hp).1
   cases hf:Ub m with
   |true=>exact .inl ⟨m,by simp only[hf,if_true],by unfold Vo;rw[h.1,hf];rfl,h.2⟩
   |false=>exact .inr ⟨0,3,by simp only[hf,cB,if_false];rfl,by decide,lO _⟩
section
variable (G:Nat→Option (List AV))
theorem n7 (hG:Gl G)(s:Bs)(x:Exp){A:Q3}(hx:VS x)(hn:(Z8 x).nodes<2^61):Qu Tryz.prog G 7 [.str s,.agg x.cells] A (bo true) A:=by
 have h8:=fun A=>n8 G hG (A:=A)
 have g1:=fun A=>M5 G x 2000 (A:=A) hx
 have p1:=fun A=>n9 G hG (N:=10*s.length+11) (A:=A) (s:=s) (fG _)
 have x1:=fun A=>r20 G x (A:=A) hx hn
 have lx:=Exp.cells_len x
 have tx:x.cells.take 4=x.cells:=by rw[←lx,fT]
 have ox:x.cells.all AV.one=true:=by cases x;rfl
 refine Q4 l7 (fE rfl) ?_
 unfold C7
 refine Qd (fun env ds B=>ds=[]∧env 0=.str s∧∃p,env 3=.ptr p 0∧B p=some (.cells x.cells)∧Z7 A B) ?_ ?_
 ·simp only[lx,tx,ox,Q1,seval]
  intro p hp
  exact⟨p,rfl,Q0 ..,(Z7.refl A).set hp (by simp)⟩
 rintro env _ B ⟨rfl,e0,p,e3,hp,hO⟩
 refine Qd (fun env ds B'=>ds=[]∧env 0=.str s∧env 3=.ptr p 0∧B=B') ?_ ?_
 ·simp only[Q1,seval]
  refine Q2 (h8 _) ?_
  simp only[e0,e3,Q1,seval]
 clear e0 e3
 rintro env _ _ ⟨rfl,e0,e3,rfl⟩
 refine Qd (fun env ds B'=>ds=[]∧env 0=.str s∧env 3=.ptr p 0∧B=B') ?_ ?_
 ·simp only[e3,hp,lx,tx,Q1,seval]
  refine Qk (g1 _) ?_
  rintro o B ⟨⟨t,rfl⟩,rfl⟩
  cases t with
  |true=>
   simp only[Q1,seval]
   exact Qb rfl hO
  |false=>
  simp only[e0,e3,Q1,seval]
 clear e0 e3
 rintro env _ _ ⟨rfl,e0,e3,rfl⟩
 have hcs:=Rr (10*s.length+11) s
 generalize U5 (10*s.length+11) s=R at*
 obtain⟨m,at',er⟩:=R
 unfold XZ at p1
 simp only at p1
 have lm:m.cells.length=6:=rfl
 have tm:m.cells.take 6=m.cells:=rfl
 have om:m.cells.all AV.one=true:=rfl
 refine Qd (fun env ds B'=>ds=[]∧env 0=.str s∧env 3=.ptr p 0∧B' p=some (.cells x.cells)∧Z7 A B'∧∃q,env 5=.ptr q 0∧env 6=i64 at'∧env 7=i64 er∧B' q=some (.cells m.cells)) ?_ ?_
 ·simp only[e0,e3,Q1,seval]
  refine Q2 (p1 _) ?_
  simp only[lm,tm,om,Q1,seval]
  intro q hq
  exact⟨e0,e3,(Q5 (Q6 hp hq)).trans hp,hO.set (hO.gone hq) (by simp),q,rfl,Q0 ..⟩
 clear e0 e3 hp hO
 rintro env _ B' ⟨rfl,e0,e3,hp,hO,q,e5,e6,e7,hq⟩
 refine Qd (fun env ds B''=>ds=[]∧env 3=.ptr p 0∧env 5=.ptr q 0∧env 7=i64 er∧B'=B'') ?_ ?_
 ·rcases hcs with⟨m',hm,hf,hlt⟩|⟨a,e,hm,he,ha⟩
  ·simp only[cW]at hm
   obtain⟨rfl,rfl,rfl⟩:=hm
   simp only[e3,e5,e7,Q1,seval]
  ·simp only[cW]at hm
   obtain⟨rfl,rfl,rfl⟩:=hm
   have hS:Qu Tryz.prog G 11 [.agg Wr.cells,.agg [.str [],.raw (.slice none 0 0),.raw (.slice none 0 0),.raw (.slice none 0 0),.raw (.slice none 0 0),.raw (.slice none 0 0)]] B' (bo true) B':=by
    have:=n11 G Wr Wr (A:=B') No
    rw[Lh]at this
    exact Qt.wk (.cons (Wk.refl _) (.cons Kt .nil)) this
   have a1:¬(a:Int)<0:=by omega
   have a2:¬(s.length:Int)<a:=by omega
   simp only[e0,e3,e5,e6,e7,hq,lm,tm,he,Q1,seval]
   refine Q2 hS ?_
   simp only[e0,e3,e5,e6,e7,a1,a2,Q1,seval]
 clear e0 e3 e5 e6 e7
 rintro env _ _ ⟨rfl,e3,e5,e7,rfl⟩
 refine Qd (fun env ds B''=>ds=[]∧env 3=.ptr p 0∧B'' p=some (.cells x.cells)∧Z7 A B'') ?_ ?_
 ·rcases hcs with⟨m',hm,hf,hlt⟩|⟨a,e,hm,he,ha⟩
  ·simp only[cW]at hm
   obtain⟨rfl,rfl,rfl⟩:=hm
   have p2:=fun A=>n14 G hG m (A:=A) hlt
   rw[fC hf,hf]at p2
   have f1:=fun A=>N0 G m (A:=A) hlt
   rw[hf]at f1
   have s1:=fun A=>n11 G m m (A:=A) hlt
   rw[Lh]at s1
   simp only[e3,e5,e7,hq,lm,tm,om,Q1,seval]
   refine Q2 (p2 _) ?_
   simp only[Q1,seval]
   refine Q2 (zH G hG hf _) ?_
   by_cases hs:(X0 m).length≤20000
   ·rw[fC hs]
    unfold XZ
    simp only[lm,tm,om,Q1,seval]
    intro d hd
    have hpd:=(Q5 (o:=some (.cells m.cells)) (Q6 hp hd)).trans hp
    have hqd:=(Q5 (o:=some (.cells m.cells)) (Q6 hq hd)).trans hq
    have hO:=hO.set (hO.gone hd) (o:=some (.cells m.cells)) (by simp)
    have hdd:(B'.upd d (some (.cells m.cells))) d=some (.cells m.cells):=Q0 ..
    generalize B'.upd d (some (.cells m.cells))=B2 at*
    have hi:((X0 m).length:Int)≤20000:=by omega
    simp only[e3,e5,hqd,lm,tm,Q1,seval]
    refine Q2 (f1 _) ?_
    simp only[e3,e5,hqd,hdd,lm,tm,hi,Q1,seval]
    refine Q2 (s1 _) ?_
    simp only[e3,Q1,seval]
    exact⟨hpd,hO⟩
   ·rw[fD hs]
    unfold XZ
    have on:Wr.cells.all AV.one=true:=rfl
    have ln:Wr.cells.length=6:=rfl
    have tn:Wr.cells.take 6=Wr.cells:=rfl
    simp only[ln,tn,on,Q1,seval]
    intro d hd
    have hpd:=(Q5 (o:=some (.cells Wr.cells)) (Q6 hp hd)).trans hp
    have hqd:=(Q5 (o:=some (.cells Wr.cells)) (Q6 hq hd)).trans hq
    have hO:=hO.set (hO.gone hd) (o:=some (.cells Wr.cells)) (by simp)
    generalize B'.upd d (some (.cells Wr.cells))=B2 at*
    have hi:¬((X0 m).length:Int)≤20000:=by omega
    simp only[e3,e5,hqd,lm,tm,Q1,seval]
    refine Q2 (f1 _) ?_
    simp only[e3,e5,hqd,lm,tm,hi,Q1,seval]
    exact⟨hpd,hO⟩
  ·simp only[cW]at hm
   obtain⟨rfl,rfl,rfl⟩:=hm
   simp only[e3,e7,he,Q1,seval]
   exact⟨hp,hO⟩
 clear e3 e5 e7 hp hO hq
 rintro env _ B'' ⟨rfl,e3,hp,hO⟩
 refine Qd (fun env ds B'=>ds=[]∧env 3=.ptr p 0∧env 13=.str (if Yc x=0 then Qh x else[])∧env 14=i64 (Yc x)∧B''=B') ?_ ?_
 ·simp only[e3,hp,lx,tx,Q1,seval]
  refine Q2 (x1 _) ?_
  simp only[e3,Q1,seval]
 clear e3
 rintro env _ _ ⟨rfl,e3,e13,e14,rfl⟩
 refine Qd (fun env ds B'=>ds=[]∧env 3=.ptr p 0∧env 13=.str (Qh x)∧Yc x=0∧(Qh x).length≤5000∧B''=B') ?_ ?_
 ·by_cases hc:Yc x=0
  ·rw[fC hc]at e13
   rw[hc]at e14
   simp only[e3,e13,e14,Q1,seval]
   exact⟨fun h=>Qb rfl hO,fun h=>⟨hc,by omega⟩⟩
  ·simp only[e14,hc,Q1,seval]
   exact Qb rfl hO
 clear e3 e13 e14
 rintro env _ _ ⟨rfl,e3,e13,hc,hlen,rfl⟩
 have hw:ZC x=true:=by
  cases hw:ZC x with
  |true=>rfl
  |false=>unfold Yc at hc;rw[hw]at hc;simp at hc
 have hsm:Zm x=true:=by
  cases hsm:Zm x with
  |true=>rfl
  |false=>unfold Yc at hc;rw[hw,hsm]at hc;simp at hc
 have p3:∀A,Qu Tryz.prog G 9 [.str (Oc (Qh x))] A (XZ (O5 x,0,0)) A:=fun A=>by
  obtain⟨N,hN,hp⟩:=Pm hw hsm (by simp only[Oc,cC,bk1,Tj,Ti,cE,cL];omega)
  have:=n9 G hG (N:=N) (A:=A) (s:=Oc (Qh x)) hN
  rwa [hp]at this
 unfold XZ at p3
 have lm:(O5 x).cells.length=6:=rfl
 have tm:(O5 x).cells.take 6=(O5 x).cells:=rfl
 have om:(O5 x).cells.all AV.one=true:=rfl
 refine Qd (fun env ds B'=>ds=[]∧env 3=.ptr p 0∧env 17=i64 0∧B' p=some (.cells x.cells)∧Z7 A B'∧∃q,env 15=.ptr q 0∧B' q=some (.cells (O5 x).cells)) ?_ ?_
 ·simp only[e3,e13,Q1,seval]
  have q3:=p3 B''
  simp only[Oc,bk1,Tj,Ti,cF,cI]at q3
  refine⟨by omega,by omega,?_,?_,?_,?_,?_⟩
  ·simp only[cC,cE,cL];omega
  ·simp only[cC,cE,cL];omega
  ·simp only[cC,cE,cL];omega
  ·simp only[cC,cE,cL];omega
  refine Q2 q3 ?_
  simp only[lm,tm,om,Q1,seval]
  intro q hq
  exact⟨e3,(Q5 (Q6 hp hq)).trans hp,hO.set (hO.gone hq) (by simp),q,rfl,Q0 ..⟩
 clear e3 e13 hp hO
 rintro env _ B3 ⟨rfl,e3,e17,hp,hO,q,e15,hq⟩
 have hcm:(O5 x).cells=[.str [109],.slice 1 0 [] none,.slice 4 0 [] none,.slice 3 0 [] none,.slice 3 0 [] none,.slice 4 1 [.str [80],.str [65],.slice 4 1 [.str [65],i64 0,.slice 4 0 [] none,i64 0] none,.slice 13 1 (Od x).cells none] none]:=by simp [O5,Model.cells,Proc.cells,Loc.cells,Qy,Zl]
 have hce:(Od x).cells=[.str [65],.str [65],.slice 4 0 [] none]++x.cells++[.str [],bo false,.slice 5 2 ([.str [118]]++x.cells++[.str [119]]++x.cells) none,.slice 2 0 [] none,i64 0,i64 0]:=by simp [Od,Edge.cells,Qy,Assign.cells]
 rw[hcm,hce]at hq
 have e1:=fun A=>k21 G x x (A:=A) hx
 rw[(WX x x).2 rfl]at e1
 obtain⟨k,n,i,xs⟩:=x
 have h4:(Exp.mk k n i xs).cells=[i64 k,.str n,i64 i,.slice 4 xs.length (xs.flatMap Exp.cells) none]:=by rw[Exp.cells,Exp.cellsL_eq]
 rw[h4]at e1 hp hq
 clear p3 lm tm om p1 x1 hcm hce hcs g1 h8 lx tx ox h4
 simp only[cF,cI]at hq
 refine Qd (fun env ds B'=>ds=[]∧env 3=.ptr p 0∧env 15=.ptr q 0∧B3=B') ?_ ?_
 ·simp only[e3,e15,e17,hq,Q1,seval]
 clear e3 e15 e17
 rintro env _ _ ⟨rfl,e3,e15,rfl⟩
 simp only[e3,e15,hp,hq,Q1,seval]
 intro d hd
 have hp:=(Q5 (o:=some (.cells [.str [65],.str [65],.slice 4 0 [] none,i64 k,.str n,i64 i,.slice 4 xs.length (xs.flatMap Exp.cells) none,.str [],bo false,.slice 5 2 [.str [118],i64 k,.str n,i64 i,.slice 4 xs.length (xs.flatMap Exp.cells) none,.str [119],i64 k,.str n,i64 i,.slice 4 xs.length (xs.flatMap Exp.cells) none] none,.slice 2 0 [] none,i64 0,i64 0])) (Q6 hp hd)).trans hp
 have hO:=hO.set (hO.gone hd) (o:=some (.cells [.str [65],.str [65],.slice 4 0 [] none,i64 k,.str n,i64 i,.slice 4 xs.length (xs.flatMap Exp.cells) none,.str [],bo false,.slice 5 2 [.str [118],i64 k,.str n,i64 i,.slice 4 xs.length (xs.flatMap Exp.cells) none,.str [119],i64 k,.str n,i64 i,.slice 4 xs.length (xs.flatMap Exp.cells) none] none,.slice 2 0 [] none,i64 0,i64 0])) (by simp)
 have hd:(B3.upd d (some (.cells [.str [65],.str [65],.slice 4 0 [] none,i64 k,.str n,i64 i,.slice 4 xs.length (xs.flatMap Exp.cells) none,.str [],bo false,.slice 5 2 [.str [118],i64 k,.str n,i64 i,.slice 4 xs.length (xs.flatMap Exp.cells) none,.str [119],i64 k,.str n,i64 i,.slice 4 xs.length (xs.flatMap Exp.cells) none] none,.slice 2 0 [] none,i64 0,i64 0]))) d=some (.cells [.str [65],.str [65],.slice 4 0 [] none,i64 k,.str n,i64 i,.slice 4 xs.length (xs.flatMap Exp.cells) none,.str [],bo false,.slice 5 2 [.str [118],i64 k,.str n,i64 i,.slice 4 xs.length (xs.flatMap Exp.cells) none,.str [119],i64 k,.str n,i64 i,.slice 4 xs.length (xs.flatMap Exp.cells) none] none,.slice 2 0 [] none,i64 0,i64 0]):=Q0 ..
 generalize B3.upd d (some (.cells [.str [65],.str [65],.slice 4 0 [] none,i64 k,.str n,i64 i,.slice 4 xs.length (xs.flatMap Exp.cells) none,.str [],bo false,.slice 5 2 [.str [118],i64 k,.str n,i64 i,.slice 4 xs.length (xs.flatMap Exp.cells) none,.str [119],i64 k,.str n,i64 i,.slice 4 xs.length (xs.flatMap Exp.cells) none] none,.slice 2 0 [] none,i64 0,i64 0]))=B4 at*
 simp only[e3,hp,hd,QW,Q1,seval]
 refine Q2 (e1 _) ?_
 simp only[e3,hp,hd,QW,Q1,seval]
 refine Q2 (e1 _) ?_
 simp only[e3,hp,hd,QW,Q1,seval]
 refine Q2 (e1 _) ?_
 simp only[e3,hp,hd,QW,Q1,seval]
 exact Qb rfl hO
end
end Go.Proofs.YtcbjbgaefighcaaGreatDoor
