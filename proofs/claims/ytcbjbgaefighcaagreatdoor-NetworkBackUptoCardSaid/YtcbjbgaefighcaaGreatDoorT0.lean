/- Part 0 of the proof. -/
import Derived.Calls
import Derived.Recover
import Derived.Deep.Draws
import Derived.Below
import Derived.RowKit3
set_option linter.all false
namespace Go.Ax
def cA:=@Option.some.injEq
def cB:=@Bool.false_eq_true
def cC:=@List.length_append
def cD:=@Bool.and_eq_true
def cE:=@List.length_cons
def cF:=@List.cons_append
def cG:=@Option.map_eq_some_iff
def cH:=@List.all_eq_true
def cI:=@List.nil_append
def cJ:=@List.map_cons
def cK:=@Bool.not_false
def cL:=@List.length_nil
def cM:=@Bool.not_true
def cN:=@List.append_nil
def cO:=@Option.map_some
def cP:=@Bool.not_eq_true
def cQ:=@List.length_singleton
def cR:=@List.getD_cons_zero
def cS:=@List.getD_cons_succ
def cT:=@Bool.or_false
def cU:=@List.append_assoc
def cV:=@List.getElem_mem
def cW:=@Prod.mk.injEq
def cX:=@Bool.not_eq_false
def cY:=@List.sizeOf_lt_of_mem
def cZ:=@Bool.false_or
def dA:=@Option.map_none
def dB:=@Bool.and_true
def dC:=@Bool.true_and
def dD:=@List.flatMap_cons
def dE:=@Bool.false_and
def dF:=@Bool.and_false
def dG:=@List.all_eq_not_any_not
def dH:=@List.map_nil
def dI:=@List.mem_cons_of_mem
def dJ:=@List.take_succ_eq_append_getElem
def dK:=@Bool.or_assoc
def dL:=@List.not_mem_nil
def dM:=@List.take_left'
def dN:=@Array.toList_inj
def dO:=@List.mem_cons_self
def dP:=@List.drop_eq_getElem_cons
def dQ:=@Bool.or_true
def dR:=@Array.length_toList
def dS:=@Bool.true_or
def dT:=@List.mem_cons
def dU:=@List.all_cons
def dV:=@List.mem_singleton
def dW:=@List.length_drop
def dX:=@List.take_of_length_le
def dY:=@List.getElem?_eq_getElem
def dZ:=@decide_eq_true_eq
def fA:=@decide_eq_true
def fB:=@decide_eq_false
def fC:=@if_pos
def fD:=@if_neg
def fE:=@of_decide_eq_true
def fF:=@Nat.mul_le_mul_right
def fG:=@Nat.le_refl
def fH:=@Nat.lt_or_ge
def fI:=@Nat.le_trans
def fJ:=@List.length_eq_zero_iff
def fK:=@List.all_append
def fL:=@List.getElem?_eq_none
def fM:=@List.any_eq_false
def fN:=@Option.bind_eq_some_iff
def fO:=@List.getElem?_eq_some_iff
def fQ:=@List.cons.injEq
def fR:=@Bool.eq_iff_iff
def fS:=@Nat.add_zero
def fT:=@List.take_length
def fU:=@Option.isSome_iff_exists
def fV:=@Nat.le_succ
def fW:=@List.mem_append
def fX:=@Bool.and_self
def fY:=@List.take_append_drop
def fZ:=@List.length_eq_one_iff
def lA:=@Bool.or_eq_true
def lB:=@Bool.not_and
def lC:=@List.drop_drop
def lD:=@Array.getElem?_eq_none
def lE:=@Option.some.inj
def lF:=@decide_eq_false_iff_not
def lG:=@List.length_map
def lH:=@List.map_append
def lJ:=@List.length_take
def lL:=@List.getElem?_cons_zero
def lM:=@List.getElem?_cons_succ
def lN:=@Nat.zero_add
def lO:=@Nat.zero_le
def lP:=@List.all_nil
open Go
inductive AV where
 |raw (v:Value)
 |str (s:List UInt8)
 |ptr (id off:Nat)
 |iptr (cs:List AV)
 |slice (sz n:Nat) (cs:List AV) (tip:Option Nat)
 |agg (cs:List AV)
 |tuple (vs:List AV)
 |iface (t:TypeId) (v:AV)
 |func (fn:Fn) (first captured:List AV)
 |map (id:Nat)
 deriving Inhabited
structure Kn where
 s:Nat→Option (Nat×Nat×Nat)
 i:Nat→Nat→Option Value
def Kn.le (κ κ':Kn):Prop:=(∀id x,κ.s id=some x→κ'.s id=some x)∧(∀b o v,κ.i b o=some v→κ'.i b o=some v)
theorem Kn.le_refl (κ:Kn):κ.le κ:=⟨fun _ _ h=>h,fun _ _ _ h=>h⟩
theorem Kn.le_trans {a b c:Kn}(h:a.le b)(k:b.le c):a.le c:=⟨fun _ _ x=>k.1 _ _ (h.1 _ _ x),fun _ _ _ x=>k.2 _ _ _ (h.2 _ _ _ x)⟩
mutual
def Qc (κ:Kn):AV→Value→Prop
 | .raw v,u=>u=v
 | .str s,u=>u=.string ⟨s.toArray⟩
 | .ptr id off,u=>∃b e E,κ.s id=some (b,e,E)∧u=.pointer (some ⟨b,off,none⟩)
 | .iptr cs,u=>∃b o,u=.pointer (some ⟨b,o,none⟩)∧Zx κ b cs o
 | .slice sz n cs tip,u=>(tip=none∧n=0∧cs=[]∧∃a,u=.slice a 0 0)∨∃b o cap,u=.slice (some ⟨b,o,none⟩) n cap∧n≤cap∧cs.length=n*sz∧Zx κ b cs o∧(∀t,tip=some t→κ.s t=some (b,o+n*sz,o+cap*sz))
 | .agg cs,u=>∃a:Array Value,u=.agg a∧Qi κ cs a.toList
 | .tuple cs,u=>∃a:Array Value,u=.tuple a∧Qi κ cs a.toList
 | .iface t v,u=>∃x,u=.iface t x∧Qc κ v x
 | .func fn f c,u=>∃fa ca:Array Value,u=.func fn fa ca∧Qi κ f fa.toList∧Qi κ c ca.toList
 | .map id,u=>∃b e E,κ.s id=some (b,e,E)∧u=.map (some b)
def Qi (κ:Kn):List AV→List Value→Prop
 |[],us=>us=[]
 |c::cs,us=>∃x xs,us=x::xs∧Qc κ c x∧Qi κ cs xs
def Zx (κ:Kn)(b:Nat):List AV→Nat→Prop
 |[],_=>True
 |c::cs,o=>(∃x,κ.i b o=some x∧Qc κ c x)∧Zx κ b cs (o+1)
end
mutual
theorem Qc.mono {κ κ':Kn}(h:κ.le κ'):∀(a:AV) (u:Value),Qc κ a u→Qc κ' a u
 | .raw _,_,hr=>by simpa[Qc]using hr
 | .str _,_,hr=>by simpa[Qc]using hr
 | .ptr _ _,_,hr=>by
  simp only[Qc]at hr⊢
  obtain⟨b,e,E,h1,h2⟩:=hr
  exact⟨b,e,E,h.1 _ _ h1,h2⟩
 | .iptr cs,_,hr=>by
  simp only[Qc]at hr⊢
  obtain⟨b,o,h1,h2⟩:=hr
  exact⟨b,o,h1,Zx.mono h b cs o h2⟩
 | .slice sz n cs tip,_,hr=>by
  simp only[Qc]at hr⊢
  rcases hr with hr|⟨b,o,cap,h1,h2,h3,h4,h5⟩
  ·exact .inl hr
  ·exact .inr ⟨b,o,cap,h1,h2,h3,Zx.mono h b cs o h4,fun t ht=>h.1 _ _ (h5 t ht)⟩
 | .agg cs,_,hr=>by
  simp only[Qc]at hr⊢
  obtain⟨a,h1,h2⟩:=hr
  exact⟨a,h1,Qi.mono h cs _ h2⟩
 | .tuple cs,_,hr=>by
  simp only[Qc]at hr⊢
  obtain⟨a,h1,h2⟩:=hr
  exact⟨a,h1,Qi.mono h cs _ h2⟩
 | .iface _ v,_,hr=>by
  simp only[Qc]at hr⊢
  obtain⟨x,h1,h2⟩:=hr
  exact⟨x,h1,Qc.mono h v _ h2⟩
 | .func _ f c,_,hr=>by
  simp only[Qc]at hr⊢
  obtain⟨fa,ca,h1,h2,h3⟩:=hr
  exact⟨fa,ca,h1,Qi.mono h f _ h2,Qi.mono h c _ h3⟩
 | .map _,_,hr=>by
  simp only[Qc]at hr⊢
  obtain⟨b,e,E,h1,h2⟩:=hr
  exact⟨b,e,E,h.1 _ _ h1,h2⟩
theorem Qi.mono {κ κ':Kn}(h:κ.le κ'):∀(cs:List AV) (us:List Value),Qi κ cs us→Qi κ' cs us
 |[],_,hr=>by simpa[Qi]using hr
 |c::cs,_,hr=>by
  simp only[Qi]at hr⊢
  obtain⟨x,xs,h1,h2,h3⟩:=hr
  exact⟨x,xs,h1,Qc.mono h c _ h2,Qi.mono h cs _ h3⟩
theorem Zx.mono {κ κ':Kn}(h:κ.le κ')(b:Nat):∀(cs:List AV) (o:Nat),Zx κ b cs o→Zx κ' b cs o
 |[],_,_=>by simp [Zx]
 |c::cs,o,hr=>by
  simp only[Zx]at hr⊢
  obtain⟨⟨x,h1,h2⟩,h3⟩:=hr
  exact⟨⟨x,h.2 _ _ _ h1,Qc.mono h c _ h2⟩,Zx.mono h b cs _ h3⟩
end
theorem Qi.length {κ:Kn}:∀{cs:List AV} {us:List Value},Qi κ cs us→us.length=cs.length
 |[],_,h=>by simp only[Qi]at h;simp [h]
 |_::_,_,h=>by
  simp only[Qi]at h
  obtain⟨x,xs,rfl,_,h3⟩:=h
  simp [Qi.length h3]
theorem Qi.get {κ:Kn}:∀{cs:List AV} {us:List Value},Qi κ cs us→∀(i:Nat) (c:AV),cs[i]? =some c→∃x,us[i]? =some x∧Qc κ c x
 |[],_,_,i,c,hc=>by simp at hc
 |d::cs,_,h,i,c,hc=>by
  simp only[Qi]at h
  obtain⟨x,xs,rfl,h2,h3⟩:=h
  cases i with
  |zero=>simp at hc;subst hc;exact⟨x,by simp,h2⟩
  |succ i=>simpa using Qi.get h3 i c (by simpa using hc)
theorem Qi.append {κ:Kn}:∀{cs ds:List AV} {us vs:List Value},Qi κ cs us→Qi κ ds vs→Qi κ (cs++ds) (us++vs)
 |[],_,_,_,h,k=>by simp only[Qi]at h;subst h;simpa using k
 |_::_,_,_,_,h,k=>by
  simp only[Qi]at h
  obtain⟨x,xs,rfl,h2,h3⟩:=h
  simp only[cF,Qi]
  exact⟨x,_,rfl,h2,Qi.append h3 k⟩
theorem Qi.take {κ:Kn}:∀(n:Nat) {cs:List AV} {us:List Value},Qi κ cs us→Qi κ (cs.take n) (us.take n)
 |0,_,_,_=>by simp [Qi]
 |n+1,[],_,h=>by simp only[Qi]at h;subst h;simp [Qi]
 |n+1,_::_,_,h=>by
  simp only[Qi]at h
  obtain⟨x,xs,rfl,h2,h3⟩:=h
  simp only[List.take_succ_cons,Qi]
  exact⟨x,_,rfl,h2,Qi.take n h3⟩
theorem Qi.drop {κ:Kn}:∀(n:Nat) {cs:List AV} {us:List Value},Qi κ cs us→Qi κ (cs.drop n) (us.drop n)
 |0,_,_,h=>by simpa using h
 |n+1,[],_,h=>by simp only[Qi]at h;subst h;simp [Qi]
 |n+1,_::_,_,h=>by
  simp only[Qi]at h
  obtain⟨x,xs,rfl,h2,h3⟩:=h
  simpa using Qi.drop n h3
theorem Qi.set {κ:Kn}:∀(i:Nat) {cs:List AV} {us:List Value} {c:AV} {x:Value},Qi κ cs us→Qc κ c x→Qi κ (cs.set i c) (us.set i x)
 |_,[],_,_,_,h,_=>by simp only[Qi]at h;subst h;simp [Qi]
 |0,_::_,_,_,_,h,k=>by
  simp only[Qi]at h
  obtain⟨x,xs,rfl,h2,h3⟩:=h
  simp only[List.set_cons_zero,Qi]
  exact⟨_,_,rfl,k,h3⟩
 |i+1,_::_,_,_,_,h,k=>by
  simp only[Qi]at h
  obtain⟨x,xs,rfl,h2,h3⟩:=h
  simp only[List.set_cons_succ,Qi]
  exact⟨_,_,rfl,h2,Qi.set i h3 k⟩
theorem Qi.two {κ:Kn}{c:AV}{us:List Value}(h:Qi κ [c] us):∃x,us=[x]∧Qc κ c x:=by
 simp only[Qi]at h
 obtain⟨x,xs,rfl,h2,h3⟩:=h
 exact⟨x,by rw[h3],h2⟩
theorem Zx.get {κ:Kn}{b:Nat}:∀{cs:List AV} {o:Nat},Zx κ b cs o→∀(i:Nat) (c:AV),cs[i]? =some c→∃x,κ.i b (o+i)=some x∧Qc κ c x
 |[],_,_,i,c,hc=>by simp at hc
 |d::cs,o,h,i,c,hc=>by
  simp only[Zx]at h
  obtain⟨⟨x,h1,h2⟩,h3⟩:=h
  cases i with
  |zero=>simp at hc;subst hc;exact⟨x,h1,h2⟩
  |succ i=>
   obtain⟨y,k1,k2⟩:=Zx.get h3 i c (by simpa using hc)
   exact⟨y,by rw[←k1];congr 1;omega,k2⟩
theorem Zx.drop {κ:Kn}{b:Nat}:∀(n:Nat) {cs:List AV} {o:Nat},Zx κ b cs o→Zx κ b (cs.drop n) (o+n)
 |0,_,_,h=>by simpa using h
 |n+1,[],_,_=>by simp [Zx]
 |n+1,_::cs,o,h=>by
  simp only[Zx]at h
  have:=Zx.drop n h.2
  simp only[List.drop_succ_cons]
  rw[show o+(n+1)=o+1+n from by omega]
  exact this
theorem Zx.take {κ:Kn}{b:Nat}:∀(n:Nat) {cs:List AV} {o:Nat},Zx κ b cs o→Zx κ b (cs.take n) o
 |0,_,_,_=>by simp [Zx]
 |n+1,[],_,_=>by simp [Zx]
 |n+1,_::cs,o,h=>by
  simp only[Zx]at h
  simp only[List.take_succ_cons,Zx]
  exact⟨h.1,Zx.take n h.2⟩
theorem Zx.append {κ:Kn}{b:Nat}:∀{cs ds:List AV} {o:Nat},Zx κ b cs o→Zx κ b ds (o+cs.length)→Zx κ b (cs++ds) o
 |[],_,_,_,k=>by simpa using k
 |c::cs,_,o,h,k=>by
  simp only[Zx]at h
  simp only[cF,Zx]
  refine⟨h.1,Zx.append h.2 ?_⟩
  rw[show o+1+cs.length=o+(c::cs).length from by simp;omega]
  exact k
inductive AObj where
 |cells (cs:List AV)
 |tip
 |mp (es:List (AV×AV))
 |mit (m:Option Nat) (left:List (AV×AV)) (last:Option (AV×AV))
 |bld (bs:List UInt8)
abbrev Q3:=Nat→Option AObj
def Q3.upd (A:Q3)(id:Nat)(o:Option AObj):Q3:=fun k=>if k=id then o else A k
@[simp] theorem Q0 (A:Q3) (id:Nat) (o:Option AObj):A.upd id o id=o:=by simp [Q3.upd]
theorem Qa (A:Q3)(id:Nat)(o:Option AObj){k:Nat}(h:k≠id):A.upd id o k=A k:=by simp [Q3.upd,h]
def Yj (κ:Kn):List (AV×AV)→List MapEntry→Prop
 |[],es=>es=[]
 |(k,v)::r,es=>∃x xs,es=x::xs∧Qc κ k x.key∧Qc κ v x.val∧Yj κ r xs
theorem Yj.mono {κ κ':Kn}(h:κ.le κ'):∀{l:List (AV×AV)} {es:List MapEntry},Yj κ l es→Yj κ' l es
 |[],_,hr=>by simpa[Yj]using hr
 |(k,v)::r,_,hr=>by
  simp only[Yj]at hr⊢
  obtain⟨x,xs,h1,h2,h3,h4⟩:=hr
  exact⟨x,xs,h1,Qc.mono h _ _ h2,Qc.mono h _ _ h3,Yj.mono h h4⟩
def Yz (b:UInt8):Value:=.int .u8 b.toNat
def L6 (w:World)(bs:List UInt8)(v:Value)(g:Option Nat):Prop:=
 (g=none∧v=.slice none 0 0∧bs=[])∨
 ∃k cap a el fr,g=some k∧v=.slice (some ⟨k,0,none⟩) bs.length cap∧bs.length≤cap∧w.heap[k]? =some (.cells a el fr)∧cap=a.size∧
  (∀i (h:i<bs.length),a[i]? =some (Yz bs[i]))∧fr.2≤bs.length
def Z5 (w:World)(b:Nat):AObj→Nat→Prop
 | .bld _,x=>x=b∨∃p a el fr n c,w.heap[b]? =some (.cells #[p,.slice (some a) n c] el fr)∧x=a.block
 |_,x=>x=b
def VQ (κ:Kn)(A:Q3)(w:World)(b e E:Nat):AObj→Prop
 | .cells cs=>e=0∧(∃(a:Array Value) (el:TypeId),w.heap[b]? =some (.cells a el (0,0))∧Qi κ cs a.toList)∧∀i,κ.i b i=none
 | .tip=>(∃(a:Array Value) (el:TypeId) (fr:Nat×Nat),w.heap[b]? =some (.cells a el fr)∧E≤a.size∧fr.2≤e)∧∀i,e≤i→κ.i b i=none
 | .mp es=>(∃(l:Array MapEntry) (c:Nat),w.heap[b]? =some (.map l c)∧Yj κ es l.toList∧(∀x,x∈l.toList→x.born<c)∧(l.toList.map (·.born)).Nodup)∧∀i,κ.i b i=none
 | .mit none left _=>left=[]∧(∃s x y,w.heap[b]? =some (.mapIter none s x y))∧∀i,κ.i b i=none
 | .mit (some id) left last=>(∃(l:Array MapEntry) (c mb me mE:Nat) (seen:Array Nat),κ.s id=some (mb,me,mE)∧(∃es,A id=some (.mp es))∧w.heap[mb]? =some (.map l c)∧
  w.heap[b]? =some (.mapIter (some mb) c seen c)∧Yj κ left (l.toList.filter fun x=> !seen.contains x.born)∧
  ∀p,last=some p→∃x,x∈l.toList∧seen.back?=some x.born∧Qc κ p.1 x.key∧Qc κ p.2 x.val)∧∀i,κ.i b i=none
 | .bld bs=>e=0∧(∃p v el g,w.heap[b]? =some (.cells #[p,v] el (0,0))∧(p=.pointer none∨p=.pointer (some ⟨b,0,none⟩))∧L6 w bs v g∧∀k,g=some k→k≠b∧∀i,κ.i k i=none)∧∀i,κ.i b i=none
def U0 (κ:Kn)(A:Q3)(w:World)(b:Nat):Prop:=∃id o x,A id=some o∧κ.s id=some x∧Z5 w x.1 o b
abbrev Ol:TypeId:=102
abbrev Wv:TypeId:=5
structure Rel (G:Nat→Option (List AV)) (κ:Kn) (A:Q3) (w:World):Prop where
 imm:∀b i v,κ.i b i=some v→w.cell? ⟨b,i,none⟩=some v
 obj:∀id o,A id=some o→∃b e E,κ.s id=some (b,e,E)∧VQ κ A w b e E o
 inj:∀id id' o o' x x' k,A id=some o→A id'=some o'→κ.s id=some x→κ.s id'=some x'→id≠id'→Z5 w x.1 o k→Z5 w x'.1 o' k→False
 fin:∃N,∀id,N≤id→κ.s id=none
 glob:∀g cs,G g=some cs→Zx κ g cs 0
 gsz:∀g cs,G g=some cs→(∃a el fr,w.heap[g]? =some (.cells a el fr)∧a.size=cs.length)∧¬U0 κ A w g
 typ:∀id cs b e E,A id=some (.cells cs)→κ.s id=some (b,e,E)→id % 2=1→∃a fr,w.heap[b]? =some (.cells a Ol fr)
 tyq:∀id b e E,A id=some .tip→κ.s id=some (b,e,E)→id % 2=1→∃a fr,w.heap[b]? =some (.cells a Wv fr)
structure Step (κ:Kn) (A:Q3) (w:World) (κ':Kn) (A':Q3) (w':World):Prop where
 le:κ.le κ'
 size:w.heap.size≤w'.heap.size
 keep:∀b,b<w.heap.size→¬U0 κ A w b→w'.heap[b]? =w.heap[b]?
 trk:∀b,U0 κ' A' w' b→U0 κ A w b∨w.heap.size≤b
 tape:w'.tape=w.tape
 os:w'.os=w.os
 output:w'.output=w.output
theorem Step.refl (κ:Kn)(A:Q3)(w:World):Step κ A w κ A w:=
 ⟨Kn.le_refl _,fG _,fun _ _ _=>rfl,fun _ h=>.inl h,rfl,rfl,rfl⟩
theorem Step.trans {κ κ' κ'':Kn}{A A' A'':Q3}{w w' w'':World}(h:Step κ A w κ' A' w')(k:Step κ' A' w' κ'' A'' w''):Step κ A w κ'' A'' w'':={
 le:=Kn.le_trans h.le k.le
 size:=fI h.size k.size
 keep:=fun b hb hn=>by
  have hs:=h.size
  have hn':¬U0 κ' A' w' b:=fun ht=>by
   rcases h.trk b ht with h1|h1
   ·exact hn h1
   ·omega
  rw[k.keep b (by omega) hn',h.keep b hb hn]
 trk:=fun b ht=>by
  have hs:=h.size
  rcases k.trk b ht with h1|h1
  ·exact h.trk b h1
  ·exact .inr (by omega)
 tape:=k.tape.trans h.tape
 os:=k.os.trans h.os
 output:=k.output.trans h.output}
theorem Z5.heap {w w':World}(hw:w'.heap=w.heap)(b:Nat)(o:AObj)(x:Nat):Z5 w' b o x↔Z5 w b o x:=by
 cases o <;> simp [Z5,hw]
theorem VQ.heap {κ:Kn}{A:Q3}{w w':World}(hw:w'.heap=w.heap){b e E:Nat}{o:AObj}(h:VQ κ A w b e E o):VQ κ A w' b e E o:=by
 cases o with
 |mit m left last=>cases m <;> simpa only[VQ,hw]using h
 |bld bs=>simpa only[VQ,L6,hw]using h
 |_=>simpa only[VQ,hw]using h
theorem KM {w w':World}(hw:w'.heap=w.heap)(a:Addr):w'.cell? a=w.cell? a:=by simp [World.cell?,hw]
theorem Rel.heap {G:Nat→Option (List AV)}{κ:Kn}{A:Q3}{w w':World}(hw:w'.heap=w.heap)(h:Rel G κ A w):Rel G κ A w':={
 imm:=fun b i v hv=>by rw[KM hw];exact h.imm b i v hv
 obj:=fun id o ho=>by
  obtain⟨b,e,E,h1,h2⟩:=h.obj id o ho
  exact⟨b,e,E,h1,h2.heap hw⟩
 inj:=fun id id' o o' x x' k h1 h2 h3 h4 h5 h6 h7=>h.inj id id' o o' x x' k h1 h2 h3 h4 h5 ((Z5.heap hw ..).1 h6) ((Z5.heap hw ..).1 h7)
 fin:=h.fin
 glob:=h.glob
 gsz:=fun g cs hg=>⟨by rw[hw];exact(h.gsz g cs hg).1,fun⟨id,o,x,h1,h2,h3⟩=>(h.gsz g cs hg).2 ⟨id,o,x,h1,h2,(Z5.heap hw ..).1 h3⟩⟩
 typ:=fun id cs b e E h1 h2 h3=>by rw[hw];exact h.typ id cs b e E h1 h2 h3
 tyq:=fun id b e E h1 h2 h3=>by rw[hw];exact h.tyq id b e E h1 h2 h3}
theorem Step.heap {κ:Kn}{A:Q3}{w w':World}(hw:w'.heap=w.heap)(h1:w'.tape=w.tape)(h2:w'.os=w.os)(h3:w'.output=w.output):Step κ A w κ A w':=
 ⟨Kn.le_refl _,by rw[hw];exact fG _,fun _ _ _=>by rw[hw],fun b ⟨id,o,x,k1,k2,k3⟩=>.inl ⟨id,o,x,k1,k2,(Z5.heap hw ..).1 k3⟩,h1,h2,h3⟩
def GU (A A':Q3):Prop:=(∀id o,A id=some o→A' id=some o)∧∀id m left last,A id=some (.mit (some m) left last)→∃es,A m=some (.mp es)
theorem VQ.less {κ:Kn}{A A':Q3}{w:World}{b e E:Nat}{o:AObj}(hm:∀m left last,o=.mit (some m) left last→∃es,A' m=some (.mp es))(h:VQ κ A w b e E o):VQ κ A' w b e E o:=by
 cases o with
 |mit m left last=>
  cases m with
  |none=>simpa only[VQ]using h
  |some m=>
   simp only[VQ]at h⊢
   obtain⟨⟨l,c,mb,me,mE,seen,h1,_,h3,h4,h5⟩,h6⟩:=h
   exact⟨⟨l,c,mb,me,mE,seen,h1,hm m left last rfl,h3,h4,h5⟩,h6⟩
 |_=>simpa only[VQ]using h
theorem Rel.weaken {G:Nat→Option (List AV)}{κ:Kn}{A A':Q3}{w:World}(h:Rel G κ A w)(hl:GU A' A):Rel G κ A' w:={
 imm:=h.imm
 obj:=fun id o ho=>by
  obtain⟨b,e,E,h1,h2⟩:=h.obj id o (hl.1 _ _ ho)
  exact⟨b,e,E,h1,h2.less (fun m left last he=>hl.2 _ _ _ _ (he▸ho))⟩
 inj:=fun id id' o o' x x' k h1 h2=>h.inj id id' o o' x x' k (hl.1 _ _ h1) (hl.1 _ _ h2)
 fin:=h.fin
 glob:=h.glob
 gsz:=fun g cs hg=>⟨(h.gsz g cs hg).1,fun⟨id,o,x,h1,h2,h3⟩=>(h.gsz g cs hg).2 ⟨id,o,x,hl.1 _ _ h1,h2,h3⟩⟩
 typ:=fun id cs b e E h1=>h.typ id cs b e E (hl.1 _ _ h1)
 tyq:=fun id b e E h1=>h.tyq id b e E (hl.1 _ _ h1)}
theorem Step.weaken {κ κ':Kn}{A A' A'':Q3}{w w':World}(h:Step κ A w κ' A' w')(hl:GU A'' A'):Step κ A w κ' A'' w':=
 ⟨h.le,h.size,h.keep,fun b ⟨id,o,x,h1,h2⟩=>h.trk b ⟨id,o,x,hl.1 _ _ h1,h2⟩,h.tape,h.os,h.output⟩
theorem Z5.base (w:World)(b:Nat)(o:AObj):Z5 w b o b:=by cases o <;> simp [Z5]
theorem VQ.block {κ:Kn}{A:Q3}{w:World}{b e E:Nat}{o:AObj}(h:VQ κ A w b e E o):b<w.heap.size:=by
 have key:∀x,w.heap[b]? =some x→b<w.heap.size:=fun x hx=>by
  rcases fH b w.heap.size with h'|h'
  ·exact h'
  ·simp [lD h']at hx
 cases o with
 |cells cs=>obtain⟨_,⟨a,el,h1,_⟩,_⟩:=h;exact key _ h1
 |tip=>obtain⟨⟨a,el,fr,h1,_⟩,_⟩:=h;exact key _ h1
 |mp es=>obtain⟨⟨l,c,h1,_⟩,_⟩:=h;exact key _ h1
 |mit m left last=>
  cases m with
  |none=>obtain⟨_,⟨s,x,y,h1⟩,_⟩:=h;exact key _ h1
  |some m=>obtain⟨⟨l,c,mb,me,mE,seen,_,_,_,h1,_⟩,_⟩:=h;exact key _ h1
 |bld bs=>obtain⟨_,⟨p,v,el,g,h1,_⟩,_⟩:=h;exact key _ h1
theorem YU {w:World}{b:Nat}{x:Obj}(hx:w.heap[b]? =some x):b<w.heap.size:=by
 rcases fH b w.heap.size with h'|h'
 ·exact h'
 ·simp [lD h']at hx
theorem L6.foot {w:World}{bs:List UInt8}{v:Value}{g:Option Nat}(h:L6 w bs v g){b:Nat}{p:Value}{el:TypeId}{fr:Nat×Nat}(hb:w.heap[b]? =some (.cells #[p,v] el fr))(k:Nat):
 Z5 w b (.bld bs) k↔(k=b∨g=some k):=by
 simp only[Z5,hb]
 rcases h with⟨hg,hv,_⟩|⟨j,cap,a,el',fr',hg,hv,_⟩
 ·subst hg hv
  constructor
  ·rintro(h|⟨p',a,el2,fr2,n,c,h,rfl⟩)
   ·exact .inl h
   ·simp at h
  ·rintro(h|h)
   ·exact .inl h
   ·simp at h
 ·subst hg hv
  constructor
  ·rintro(h|⟨p',a,el2,fr2,n,c,h,rfl⟩)
   ·exact .inl h
   ·simp only[cA,Obj.cells.injEq]at h
    have h2:=h.1
    simp at h2
    exact .inr (by rw[←h2.2.1])
  ·rintro(h|h)
   ·exact .inl h
   ·simp only[cA]at h
    subst h
    exact .inr ⟨_,_,_,_,_,_,rfl,rfl⟩
theorem VQ.foot_lt {κ:Kn}{A:Q3}{w:World}{b e E:Nat}{o:AObj}(h:VQ κ A w b e E o){k:Nat}(hk:Z5 w b o k):k<w.heap.size:=by
 cases o with
 |bld bs=>
  obtain⟨_,⟨p,v,el,g,h1,_,h3,_⟩,_⟩:=h
  rcases(h3.foot h1 k).1 hk with rfl|hg
  ·exact YU h1
  ·rcases h3 with⟨h0,_⟩|⟨j,cap,a,el',fr',hj,_,_,hh,_⟩
   ·rw[h0]at hg;simp at hg
   ·rw[hj]at hg;simp only[cA]at hg;subst hg;exact YU hh
 |_=>simp only[Z5]at hk;subst hk;exact h.block
theorem Cy {G:Nat→Option (List AV)}{κ:Kn}{A:Q3}{w:World}(h:Rel G κ A w){k:Nat}(hk:U0 κ A w k):k<w.heap.size:=by
 obtain⟨id,o,x,h1,h2,h3⟩:=hk
 obtain⟨b,e,E,k1,k2⟩:=h.obj id o h1
 rw[h2]at k1
 simp only[cA]at k1
 subst k1
 exact k2.foot_lt h3
theorem Rel.imm_lt {G:Nat→Option (List AV)}{κ:Kn}{A:Q3}{w:World}(h:Rel G κ A w){b i:Nat}{v:Value}(hv:κ.i b i=some v):b<w.heap.size:=by
 have:=h.imm b i v hv
 rcases fH b w.heap.size with h'|h'
 ·exact h'
 ·simp [World.cell?,lD h']at this
theorem L6.heap {w w':World}{bs:List UInt8}{v:Value}{g:Option Nat}(h:L6 w bs v g)(hg:∀k,g=some k→w'.heap[k]? =w.heap[k]?):L6 w' bs v g:=by
 rcases h with h|⟨k,cap,a,el,fr,h1,h2,h3,h4,h5⟩
 ·exact .inl h
 ·exact .inr ⟨k,cap,a,el,fr,h1,h2,h3,by rw[hg k h1];exact h4,h5⟩
theorem VQ.carry {κ κ':Kn}{A A':Q3}{w w':World}{b e E:Nat}{o:AObj}(h:VQ κ A w b e E o)(hl:κ.le κ')
 (hf:∀k,Z5 w b o k→w'.heap[k]? =w.heap[k]?)(hi:∀k i,Z5 w b o k→(o=.tip→e≤i)→κ.i k i=none→κ'.i k i=none)
 (hm:∀m left last x,o=.mit (some m) left last→κ.s m=some x→(∃es,A m=some (.mp es))→w'.heap[x.1]? =w.heap[x.1]? ∧∃es,A' m=some (.mp es)):VQ κ' A' w' b e E o:=by
 have hb:=hf b (Z5.base w b o)
 have hib:∀i,(o=.tip→e≤i)→κ.i b i=none→κ'.i b i=none:=fun i h1 h2=>hi b i (Z5.base w b o) h1 h2
 cases o with
 |cells cs=>
  obtain⟨h1,⟨a,el,h2,h3⟩,h4⟩:=h
  exact⟨h1,⟨a,el,by rw[hb];exact h2,Qi.mono hl _ _ h3⟩,fun i=>hib i (by simp) (h4 i)⟩
 |tip=>
  obtain⟨⟨a,el,fr,h2,h3⟩,h4⟩:=h
  exact⟨⟨a,el,fr,by rw[hb];exact h2,h3⟩,fun i he=>hib i (fun _=>he) (h4 i he)⟩
 |mp es=>
  obtain⟨⟨l,c,h2,h3,h5⟩,h4⟩:=h
  exact⟨⟨l,c,by rw[hb];exact h2,Yj.mono hl h3,h5⟩,fun i=>hib i (by simp) (h4 i)⟩
 |mit m left last=>
  cases m with
  |none=>
   obtain⟨h1,⟨s,x,y,h2⟩,h4⟩:=h
   exact⟨h1,⟨s,x,y,by rw[hb];exact h2⟩,fun i=>hib i (by simp) (h4 i)⟩
  |some m=>
   obtain⟨⟨l,c,mb,me,mE,seen,h1,h2,h3,h5,h6,h7⟩,h4⟩:=h
   obtain⟨k1,k2⟩:=hm m left last _ rfl h1 h2
   refine⟨⟨l,c,mb,me,mE,seen,hl.1 _ _ h1,k2,by rw[k1];exact h3,by rw[hb];exact h5,Yj.mono hl h6,fun p hp=> ?_⟩,fun i=>hib i (by simp) (h4 i)⟩
   obtain⟨x,q1,q2,q3,q4⟩:=h7 p hp
   exact⟨x,q1,q2,Qc.mono hl _ _ q3,Qc.mono hl _ _ q4⟩
 |bld bs=>
  obtain⟨h1,⟨p,v,el,g,h2,h3,h5,h6⟩,h4⟩:=h
  refine⟨h1,⟨p,v,el,g,by rw[hb];exact h2,h3,h5.heap fun k hk=>hf k ((h5.foot h2 k).2 (.inr hk)),fun k hk=>⟨(h6 k hk).1,fun i=>hi k i ((h5.foot h2 k).2 (.inr hk)) (by simp) ((h6 k hk).2 i)⟩⟩,fun i=>hib i (by simp) (h4 i)⟩
theorem ZW {w w':World}{b:Nat}{o:AObj}(hb:w'.heap[b]? =w.heap[b]?)(k:Nat):Z5 w' b o k↔Z5 w b o k:=by
 cases o <;> simp [Z5,hb]
theorem heap_alloc (w:World)(o:Obj)(k:Nat)(h:k<w.heap.size):(w.alloc o).heap[k]? =w.heap[k]? :=Go.RowKit.Below.heap_alloc w o k h
theorem Yi (w:World)(o:Obj):(w.alloc o).heap[w.heap.size]? =some o:=by
 show(w.heap.push o)[w.heap.size]? =some o
 simp
theorem Hq (w:World)(o:Obj):(w.alloc o).heap.size=w.heap.size+1:=by
 show(w.heap.push o).size=_
 simp
theorem Rel.glob_lt {G:Nat→Option (List AV)}{κ:Kn}{A:Q3}{w:World}(h:Rel G κ A w){g:Nat}{cs:List AV}(hg:G g=some cs):g<w.heap.size:=by
 obtain⟨⟨a,el,fr,h1,_⟩,_⟩:=h.gsz g cs hg
 exact YU h1
theorem Rel.alloc0 {G:Nat→Option (List AV)}{κ:Kn}{A:Q3}{w:World}(h:Rel G κ A w)(o:Obj):Rel G κ A (w.alloc o):={
 imm:=fun b i v hv=>by
  have:=h.imm_lt hv
  rw[←h.imm b i v hv]
  simp only[World.cell?,heap_alloc w o b this]
 obj:=fun id ob ho=>by
  obtain⟨b,e,E,h1,h2⟩:=h.obj id ob ho
  refine⟨b,e,E,h1,h2.carry (Kn.le_refl _) (fun k hk=>heap_alloc w o k (h2.foot_lt hk)) (fun _ _ _ _ h=>h) fun m left last x _ hx ⟨es,hes⟩=>⟨?_,es,hes⟩⟩
  obtain⟨mb,me,mE,k1,k2⟩:=h.obj m _ hes
  rw[hx]at k1;simp only[cA]at k1;subst k1
  exact heap_alloc w o _ k2.block
 inj:=fun id id' ob ob' x x' k h1 h2 h3 h4 h5 h6 h7=>by
  obtain⟨b,e,E,k1,k2⟩:=h.obj id _ h1
  obtain⟨b',e',E',k1',k2'⟩:=h.obj id' _ h2
  rw[h3]at k1;simp only[cA]at k1;subst k1
  rw[h4]at k1';simp only[cA]at k1';subst k1'
  exact h.inj id id' ob ob' _ _ k h1 h2 h3 h4 h5 ((ZW (heap_alloc w o _ k2.block) k).1 h6) ((ZW (heap_alloc w o _ k2'.block) k).1 h7)
 fin:=h.fin
 glob:=h.glob
 gsz:=fun g cs hg=>⟨by rw[heap_alloc w o g (h.glob_lt hg)];exact(h.gsz g cs hg).1,fun⟨id,ob,x,h1,h2,h3⟩=>(h.gsz g cs hg).2 ⟨id,ob,x,h1,h2,by
  obtain⟨b,e,E,k1,k2⟩:=h.obj id _ h1
  rw[h2]at k1;simp only[cA]at k1;subst k1
  exact(ZW (heap_alloc w o _ k2.block) g).1 h3⟩⟩
 typ:=fun id cs b e E h1 h2 h3=>by
  obtain⟨a,fr,h4⟩:=h.typ id cs b e E h1 h2 h3
  exact⟨a,fr,by rw[heap_alloc w o b (YU h4)];exact h4⟩
 tyq:=fun id b e E h1 h2 h3=>by
  obtain⟨a,fr,h4⟩:=h.tyq id b e E h1 h2 h3
  exact⟨a,fr,by rw[heap_alloc w o b (YU h4)];exact h4⟩}
theorem Step.alloc0 {G:Nat→Option (List AV)}{κ:Kn}{A:Q3}{w:World}(h:Rel G κ A w)(o:Obj):Step κ A w κ A (w.alloc o):={
 le:=Kn.le_refl _
 size:=by rw[Hq];omega
 keep:=fun b hb _=>heap_alloc w o b hb
 trk:=fun b ⟨id,ob,x,h1,h2,h3⟩=>by
  obtain⟨b',e,E,k1,k2⟩:=h.obj id _ h1
  rw[h2]at k1;simp only[cA]at k1;subst k1
  exact .inl ⟨id,ob,_,h1,h2,(ZW (heap_alloc w o _ k2.block) b).1 h3⟩
 tape:=rfl
 os:=rfl
 output:=rfl}
def Kn.addS (κ:Kn)(id:Nat)(x:Nat×Nat×Nat):Kn:={κ with s:=fun k=>if k=id then some x else κ.s k}
@[simp] theorem Xn (κ:Kn) (id:Nat) (x:Nat×Nat×Nat):(κ.addS id x).s id=some x:=by simp [Kn.addS]
theorem Yh (κ:Kn)(id:Nat)(x:Nat×Nat×Nat){k:Nat}(h:k≠id):(κ.addS id x).s k=κ.s k:=by simp [Kn.addS,h]
theorem U9 {κ:Kn}{id:Nat}(h:κ.s id=none)(x:Nat×Nat×Nat):κ.le (κ.addS id x):=
 ⟨fun k y hk=>by
  by_cases e:k=id
  ·subst e;rw[h]at hk;simp at hk
  ·rw[Yh _ _ _ e];exact hk,fun _ _ _ hk=>hk⟩
theorem Rel.s_none {G:Nat→Option (List AV)}{κ:Kn}{A:Q3}{w:World}(h:Rel G κ A w){id:Nat}(hid:κ.s id=none):A id=none:=by
 cases ha:A id with
 |none=>rfl
 |some o=>
  obtain⟨b,e,E,h1,_⟩:=h.obj id o ha
  rw[hid]at h1;simp at h1
theorem Rel.freshP {G:Nat→Option (List AV)}{κ:Kn}{A:Q3}{w:World}(h:Rel G κ A w)(p:Nat)(hp:p<2):∃id,κ.s id=none∧A id=none∧id % 2=p:=by
 obtain⟨N,hN⟩:=h.fin
 exact⟨2*N+p,hN _ (by omega),h.s_none (hN _ (by omega)),by omega⟩
theorem Rel.fresh {G:Nat→Option (List AV)}{κ:Kn}{A:Q3}{w:World}(h:Rel G κ A w):∃id,κ.s id=none∧A id=none:=by
 obtain⟨N,hN⟩:=h.fin
 exact⟨N,hN N (fG _),h.s_none (hN N (fG _))⟩
theorem Rel.track {G:Nat→Option (List AV)}{κ:Kn}{A:Q3}{w:World}(h:Rel G κ A w){id b e E:Nat}{o:AObj}(hid:κ.s id=none)
 (ho:VQ (κ.addS id (b,e,E)) (A.upd id (some o)) w b e E o)(hdis:∀k,Z5 w b o k→¬U0 κ A w k)(hgf:∀g cs,G g=some cs→¬Z5 w b o g)(hty:∀cs,o=.cells cs→id % 2=1→∃a fr,w.heap[b]? =some (.cells a Ol fr):=by intro _ h;cases h)(hty':o=.tip→id % 2=1→∃a fr,w.heap[b]? =some (.cells a Wv fr):=by intro h;cases h):
 Rel G (κ.addS id (b,e,E)) (A.upd id (some o)) w:={
 imm:=h.imm
 obj:=fun k ob hk=>by
  by_cases ek:k=id
  ·subst ek
   simp at hk;subst hk
   exact⟨b,e,E,by simp,ho⟩
  ·rw[Qa _ _ _ ek]at hk
   obtain⟨b',e',E',h1,h2⟩:=h.obj k ob hk
   refine⟨b',e',E',by rw[Yh _ _ _ ek];exact h1,h2.carry (U9 hid _) (fun _ _=>rfl) (fun _ _ _ _ h=>h) fun m left last x _ hx ⟨es,hes⟩=>⟨rfl,es,?_⟩⟩
   rw[Qa _ _ _ (fun em=>by subst em;rw[h.s_none hid]at hes;simp at hes)]
   exact hes
 inj:=fun i j oi oj xi xj k h1 h2 h3 h4 h5 h6 h7=>by
  by_cases ei:i=id
  ·subst ei
   have ej:j≠i:=fun e=>h5 e.symm
   simp at h1 h3;subst h1 h3
   rw[Qa _ _ _ ej]at h2
   rw[Yh _ _ _ ej]at h4
   exact hdis k h6 ⟨j,oj,xj,h2,h4,h7⟩
  ·rw[Qa _ _ _ ei]at h1
   rw[Yh _ _ _ ei]at h3
   by_cases ej:j=id
   ·subst ej
    simp at h2 h4;subst h2 h4
    exact hdis k h7 ⟨i,oi,xi,h1,h3,h6⟩
   ·rw[Qa _ _ _ ej]at h2
    rw[Yh _ _ _ ej]at h4
    exact h.inj i j oi oj xi xj k h1 h2 h3 h4 h5 h6 h7
 fin:=by
  obtain⟨N,hN⟩:=h.fin
  refine⟨max N (id+1),fun k hk=> ?_⟩
  rw[Yh _ _ _ (by omega)]
  exact hN k (by omega)
 glob:=fun g cs hg=>Zx.mono (U9 hid _) _ _ _ (h.glob g cs hg)
 gsz:=fun g cs hg=>⟨(h.gsz g cs hg).1,fun⟨j,oj,x,h1,h2,h3⟩=>by
  by_cases ej:j=id
  ·subst ej
   simp at h1 h2;subst h1 h2
   exact hgf g cs hg h3
  ·rw[Qa _ _ _ ej]at h1
   rw[Yh _ _ _ ej]at h2
   exact(h.gsz g cs hg).2 ⟨j,oj,x,h1,h2,h3⟩⟩
 typ:=fun j cs b' e' E' h1 h2 h3=>by
  by_cases ej:j=id
  ·subst ej
   simp at h1 h2
   obtain⟨rfl,rfl,rfl⟩:=h2
   exact hty cs h1 h3
  ·rw[Qa _ _ _ ej]at h1
   rw[Yh _ _ _ ej]at h2
   exact h.typ j cs b' e' E' h1 h2 h3
 tyq:=fun j b' e' E' h1 h2 h3=>by
  by_cases ej:j=id
  ·subst ej
   simp at h1 h2
   obtain⟨rfl,rfl,rfl⟩:=h2
   exact hty' h1 h3
  ·rw[Qa _ _ _ ej]at h1
   rw[Yh _ _ _ ej]at h2
   exact h.tyq j b' e' E' h1 h2 h3}
theorem Step.track {κ κ1:Kn}{A A1:Q3}{w w':World}{id b e E:Nat}{o:AObj}(hid:κ1.s id=none)(h:Step κ A w κ1 A1 w')(hnew:∀k,Z5 w' b o k→U0 κ A w k∨w.heap.size≤k):
 Step κ A w (κ1.addS id (b,e,E)) (A1.upd id (some o)) w':={
 le:=Kn.le_trans h.le (U9 hid _)
 size:=h.size
 keep:=h.keep
 trk:=fun k ⟨j,oj,x,h1,h2,h3⟩=>by
  by_cases ej:j=id
  ·subst ej
   simp at h1 h2;subst h1 h2
   exact hnew k h3
  ·rw[Qa _ _ _ ej]at h1
   rw[Yh _ _ _ ej]at h2
   exact h.trk k ⟨j,oj,x,h1,h2,h3⟩
 tape:=h.tape
 os:=h.os
 output:=h.output}
def Kn.addI (κ:Kn)(b:Nat)(f:Nat→Option Value):Kn:={κ with i:=fun b' o=>if b'=b then(f o).or (κ.i b' o)else κ.i b' o}
theorem Km (κ:Kn)(b:Nat)(f:Nat→Option Value){b':Nat}(h:b'≠b)(o:Nat):(κ.addI b f).i b' o=κ.i b' o:=by simp [Kn.addI,h]
theorem VK (κ:Kn)(b:Nat)(f:Nat→Option Value)(o:Nat):(κ.addI b f).i b o=(f o).or (κ.i b o):=by simp [Kn.addI]
theorem O2 {κ:Kn}{b:Nat}{f:Nat→Option Value}(h:∀o v,κ.i b o=some v→f o=none∨f o=some v):κ.le (κ.addI b f):=
 ⟨fun _ _ h=>h,fun b' o v hk=>by
  by_cases e:b'=b
  ·subst e
   rw[VK]
   rcases h o v hk with h|h <;> simp [h,hk]
  ·rw[Km _ _ _ e];exact hk⟩
theorem Rel.know {G:Nat→Option (List AV)}{κ:Kn}{A:Q3}{w:World}(h:Rel G κ A w){b:Nat}{f:Nat→Option Value}(hf:∀i v,f i=some v→w.cell? ⟨b,i,none⟩=some v)
 (hA:∀id o x,A id=some o→κ.s id=some x→Z5 w x.1 o b→o=.tip∧∀i,x.2.1≤i→f i=none):Rel G (κ.addI b f) A w:=by
 have hle:κ.le (κ.addI b f):=O2 fun o v hv=>by
  cases hfo:f o with
  |none=>exact .inl rfl
  |some u=>
   have h1:=hf o u hfo
   rw[h.imm b o v hv]at h1
   exact .inr h1.symm
 refine⟨fun b' i v hv=> ?_,fun id o ho=> ?_,h.inj,h.fin,fun g cs hg=>Zx.mono hle _ _ _ (h.glob g cs hg),h.gsz,h.typ,h.tyq⟩
 ·by_cases e:b'=b
  ·subst e
   rw[VK]at hv
   cases hfo:f i with
   |none=>rw[hfo]at hv;simp at hv;exact h.imm _ _ _ hv
   |some u=>rw[hfo]at hv;simp at hv;subst hv;exact hf i u hfo
  ·rw[Km _ _ _ e]at hv
   exact h.imm b' i v hv
 ·obtain⟨b',e,E,h1,h2⟩:=h.obj id o ho
  refine⟨b',e,E,h1,h2.carry hle (fun _ _=>rfl) (fun k i hk ht hn=> ?_) fun _ _ _ _ _ _ hes=>⟨rfl,hes⟩⟩
  by_cases ek:k=b
  ·subst ek
   obtain⟨h3,h4⟩:=hA id o _ ho h1 hk
   rw[VK,h4 i (ht h3),hn]
   rfl
  ·rw[Km _ _ _ ek];exact hn
theorem Step.know {κ:Kn}{A:Q3}{w w':World}(h:Step κ A w κ A w'){κ':Kn}(hle:κ.le κ')(hs:κ'.s=κ.s):Step κ A w κ' A w':={
 le:=hle
 size:=h.size
 keep:=h.keep
 trk:=fun b ⟨id,o,x,h1,h2,h3⟩=>h.trk b ⟨id,o,x,h1,by rw[←hs];exact h2,h3⟩
 tape:=h.tape
 os:=h.os
 output:=h.output}
theorem Rel.turn {G:Nat→Option (List AV)}{κ:Kn}{A:Q3}{w w':World}(h:Rel G κ A w){id b e E:Nat}{o o':AObj}(hid:A id=some o)(hs:κ.s id=some (b,e,E))
 (hkeep:∀k,k<w.heap.size→¬Z5 w b o k→w'.heap[k]? =w.heap[k]?)(himm:∀k i v,Z5 w b o k→κ.i k i=some v→w'.cell? ⟨k,i,none⟩=some v)
 (ho:VQ κ (A.upd id (some o')) w' b e E o')(hfoot:∀k,Z5 w' b o' k→Z5 w b o k∨w.heap.size≤k)
 (hmp:(∃es,o=.mp es)→(∀j m left last,A j=some (.mit m left last)→m≠some id))(hty:∀cs,o'=.cells cs→id % 2=1→∃a fr,w'.heap[b]? =some (.cells a Ol fr):=by intro _ h;cases h)(hty':o'=.tip→id % 2=1→∃a fr,w'.heap[b]? =some (.cells a Wv fr):=by intro h;cases h):Rel G κ (A.upd id (some o')) w':=by
 have hother:∀j oj x,j≠id→A j=some oj→κ.s j=some x→∀k,Z5 w x.1 oj k→w'.heap[k]? =w.heap[k]? :=fun j oj x hj h1 h2 k hk=>by
  obtain⟨b',e',E',k1,k2⟩:=h.obj j _ h1
  rw[h2]at k1;simp only[cA]at k1;subst k1
  exact hkeep k (k2.foot_lt hk) fun hk'=>h.inj j id oj o _ _ k h1 hid h2 hs hj hk hk'
 refine⟨fun b' i v hv=> ?_,fun j oj hj=> ?_,fun i j oi oj xi xj k h1 h2 h3 h4 h5 h6 h7=> ?_,h.fin,h.glob,fun g cs hg=>⟨by rw[hkeep g (h.glob_lt hg) fun hf=>(h.gsz g cs hg).2 ⟨id,o,_,hid,hs,hf⟩];exact(h.gsz g cs hg).1,fun⟨j,oj,x,h1,h2,h3⟩=> ?_⟩,fun j cs b' e' E' h1 h2 h3=> ?_,fun j b' e' E' h1 h2 h3=> ?_⟩
 ·by_cases ef:Z5 w b o b'
  ·exact himm b' i v ef hv
  ·rw[←h.imm b' i v hv]
   simp only[World.cell?,hkeep b' (h.imm_lt hv) ef]
 ·by_cases ej:j=id
  ·subst ej
   simp at hj;subst hj
   exact⟨b,e,E,hs,ho⟩
  ·rw[Qa _ _ _ ej]at hj
   obtain⟨b',e',E',h1,h2⟩:=h.obj j oj hj
   refine⟨b',e',E',h1,h2.carry (Kn.le_refl _) (hother j oj _ ej hj h1) (fun _ _ _ _ h=>h) fun m left last x hoj hx ⟨es,hes⟩=> ?_⟩
   subst hoj
   have em:m≠id:=fun em=>by
    subst em
    rw[hid]at hes;simp only[cA]at hes
    exact hmp ⟨es,hes⟩ j (some m) left last hj rfl
   exact⟨hother m _ x em hes hx _ (Z5.base w _ _),es,by rw[Qa _ _ _ em];exact hes⟩
 ·have hno:∀j oj xj,j≠id→A j=some oj→κ.s j=some xj→Z5 w' b o' k→Z5 w' xj.1 oj k→False:=fun j oj xj ej h2 h4 h6 h7=>by
   obtain⟨b',e',E',k1,k2⟩:=h.obj j _ h2
   rw[h4]at k1;simp only[cA]at k1;subst k1
   have h7':=(ZW (hother j oj _ ej h2 h4 _ (Z5.base w _ _)) k).1 h7
   rcases hfoot k h6 with hk|hk
   ·exact h.inj id j o oj _ _ k hid h2 hs h4 (fun e=>ej e.symm) hk h7'
   ·have:=k2.foot_lt h7';omega
  by_cases ei:i=id
  ·subst ei
   have ej:j≠i:=fun e=>h5 e.symm
   simp at h1;subst h1
   rw[hs]at h3;simp only[cA]at h3;subst h3
   rw[Qa _ _ _ ej]at h2
   exact hno j oj xj ej h2 h4 h6 h7
  ·rw[Qa _ _ _ ei]at h1
   by_cases ej:j=id
   ·subst ej
    simp at h2;subst h2
    rw[hs]at h4;simp only[cA]at h4;subst h4
    exact hno i oi xi ei h1 h3 h7 h6
   ·rw[Qa _ _ _ ej]at h2
    exact h.inj i j oi oj xi xj k h1 h2 h3 h4 h5 ((ZW (hother i oi xi ei h1 h3 _ (Z5.base w _ _)) k).1 h6) ((ZW (hother j oj xj ej h2 h4 _ (Z5.base w _ _)) k).1 h7)
 ·by_cases ej:j=id
  ·subst ej
   simp at h1;subst h1
   rw[hs]at h2;simp only[cA]at h2;subst h2
   rcases hfoot g h3 with hk|hk
   ·exact(h.gsz g cs hg).2 ⟨j,o,_,hid,hs,hk⟩
   ·have:=h.glob_lt hg;omega
  ·rw[Qa _ _ _ ej]at h1
   exact(h.gsz g cs hg).2 ⟨j,oj,x,h1,h2,(ZW (hother j oj x ej h1 h2 _ (Z5.base w _ _)) g).1 h3⟩
 ·by_cases ej:j=id
  ·subst ej
   simp at h1
   rw[hs]at h2;simp only[cA,cW]at h2
   obtain⟨rfl,rfl,rfl⟩:=h2
   exact hty cs h1 h3
  ·rw[Qa _ _ _ ej]at h1
   obtain⟨a,fr,h4⟩:=h.typ j cs b' e' E' h1 h2 h3
   exact⟨a,fr,by rw[hother j _ _ ej h1 h2 _ (Z5.base w _ _)];exact h4⟩
 ·by_cases ej:j=id
  ·subst ej
   simp at h1
   rw[hs]at h2;simp only[cA,cW]at h2
   obtain⟨rfl,rfl,rfl⟩:=h2
   exact hty' h1 h3
  ·rw[Qa _ _ _ ej]at h1
   obtain⟨a,fr,h4⟩:=h.tyq j b' e' E' h1 h2 h3
   exact⟨a,fr,by rw[hother j _ _ ej h1 h2 _ (Z5.base w _ _)];exact h4⟩
theorem Step.turn {G:Nat→Option (List AV)}{κ:Kn}{A:Q3}{w w':World}(h:Rel G κ A w){id b e E:Nat}{o o':AObj}(hid:A id=some o)(hs:κ.s id=some (b,e,E))
 (hsize:w.heap.size≤w'.heap.size)(hkeep:∀k,k<w.heap.size→¬Z5 w b o k→w'.heap[k]? =w.heap[k]?)(hfoot:∀k,Z5 w' b o' k→Z5 w b o k∨w.heap.size≤k)
 (h1:w'.tape=w.tape)(h2:w'.os=w.os)(h3:w'.output=w.output):Step κ A w κ (A.upd id (some o')) w':={
 le:=Kn.le_refl _
 size:=hsize
 keep:=fun k hk hn=>hkeep k hk fun hf=>hn ⟨id,o,_,hid,hs,hf⟩
 trk:=fun k ⟨j,oj,x,k1,k2,k3⟩=>by
  by_cases ej:j=id
  ·subst ej
   simp at k1;subst k1
   rw[hs]at k2;simp only[cA]at k2;subst k2
   rcases hfoot k k3 with hk|hk
   ·exact .inl ⟨j,o,_,hid,hs,hk⟩
   ·exact .inr hk
  ·rw[Qa _ _ _ ej]at k1
   obtain⟨b',e',E',q1,q2⟩:=h.obj j _ k1
   rw[k2]at q1;simp only[cA]at q1;subst q1
   have hb':w'.heap[b']? =w.heap[b']? :=hkeep b' q2.block fun hf=>h.inj j id oj o _ _ b' k1 hid k2 hs ej (Z5.base w _ _) hf
   exact .inl ⟨j,oj,_,k1,k2,(ZW hb' k).1 k3⟩
 tape:=h1
 os:=h2
 output:=h3}
theorem heap_setCell (w:World)(a:Addr)(u:Value)(k:Nat)(h:k≠a.block):(w.setCell a u).heap[k]? =w.heap[k]? :=Go.RowKit.Below.heap_setCell w a u k h
theorem I2 (w:World)(b i:Nat)(u:Value){a:Array Value}{el:TypeId}{fr:Nat×Nat}(h:w.heap[b]? =some (.cells a el fr)):(w.setCell ⟨b,i,none⟩ u).heap[b]? =some (.cells (a.setIfInBounds i u) el fr):=by
 simp [World.setCell,Array.getElem?_modify,h]
theorem Rp (w:World)(a:Addr)(u:Value):(w.setCell a u).heap.size=w.heap.size:=by simp [World.setCell]
theorem Rel.store {G:Nat→Option (List AV)}{κ:Kn}{A:Q3}{w:World}(h:Rel G κ A w){id b e E i:Nat}{cs:List AV}{c:AV}{u:Value}(hid:A id=some (.cells cs))(hs:κ.s id=some (b,e,E))(hu:Qc κ c u):
 Rel G κ (A.upd id (some (.cells (cs.set i c)))) (w.setCell ⟨b,i,none⟩ u)∧Step κ A w κ (A.upd id (some (.cells (cs.set i c)))) (w.setCell ⟨b,i,none⟩ u):=by
 obtain⟨b',e',E',k1,k2⟩:=h.obj id _ hid
 rw[hs]at k1;simp only[cA,cW]at k1;obtain⟨rfl,rfl,rfl⟩:=k1
 obtain⟨h1,⟨a,el,h2,h3⟩,h4⟩:=k2
 have hk:∀k,k<w.heap.size→¬Z5 w b (.cells cs) k→(w.setCell ⟨b,i,none⟩ u).heap[k]? =w.heap[k]? :=fun k _ hn=>heap_setCell _ _ _ _ (by simpa[Z5]using hn)
 refine⟨h.turn hid hs hk (fun k j v hf hv=> ?_) ⟨h1,⟨_,el,I2 w b i u h2,?_⟩,h4⟩ (fun k hf=>.inl (by simpa[Z5]using hf)) (by simp) (fun cs' _ hodd=>by
  obtain⟨a',fr',h5⟩:=h.typ id _ b _ _ hid hs hodd
  exact⟨_,fr',I2 w b i u h5⟩),.turn h hid hs (by rw[Rp];exact fG _) hk (fun k hf=>.inl (by simpa[Z5]using hf)) rfl rfl rfl⟩
 ·simp only[Z5]at hf
  subst hf
  rw[h4 j]at hv;simp at hv
 ·have:=Qi.set i h3 hu
  simpa using this
end Go.Ax
