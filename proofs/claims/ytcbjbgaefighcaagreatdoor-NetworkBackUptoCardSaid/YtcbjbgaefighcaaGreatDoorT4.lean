/- Part 4 of the proof. -/
import Derived.Test.YtcbjbgaefighcaaGreatDoorT0
import Derived.Test.YtcbjbgaefighcaaGreatDoorT3
import Derived.Laws.Append
import Derived.Great.BuildSlice
import Derived.Lib.ConvBytes
set_option linter.all false
namespace Go.Ax
open Go
section
variable {P:Program}{G:Nat→Option (List AV)}{κ:Kn}{A:Q3}{w:World}
theorem Ly {t tx ty e:TypeId}{i:TypeInfo}{d:TypeDesc}(ht:P.underlying t=some (.slice e))(hi:P.info? e=some i)(htx:P.underlying tx=some d)(hd:∀k,d≠ .int k){base:Option Addr}{n cap m:Nat}{xv:Value}{us:List Value}
 (hlen:(Builtin.lenOf xv).run P w=.ok m w)(hnew:(Builtin.firstCells i.size m xv).run P w=.ok us.toArray w)(hfit:n+m≤cap){w':World}(h0:base=none→w'=w)(h1:∀a,base=some a→(storeCells (a.add (n*i.size)) us).run P w=.ok () w'):
 (Builtin.append_ #[t,tx] ty #[.slice base n cap,xv]).run P w=.ok (.slice base (n+m) cap) w':=by
 have hz:(match d with| .int _=>true|_=>false)=false:=by cases d <;> first|rfl|exact absurd rfl (hd _)
 unfold Builtin.append_
 simp only[List.getElem?_toArray,lL,lM,Sem.run_bind,run_underlying ht,Result.andThen_ok,sizeOf,typeInfo,run_program,hi,Sem.run_pure,run_underlying htx]
 cases base with
 |none=>
  have:=h0 rfl
  subst this
  cases d <;> first|exact absurd rfl (hd _)|simp [hlen,hfit,hnew]
 |some a=>
  have:=h1 a rfl
  cases d <;> first|exact absurd rfl (hd _)|simp [hlen,hfit,hnew,this]
theorem O8 (need old:Nat)(el:TypeId)(t:Nat):need≤(Question.appendCap need old el).cut t:=by
 simp only[Question.cut];omega
theorem Hv {t tx ty e:TypeId}{i:TypeInfo}{d:TypeDesc}{z:Value}(ht:P.underlying t=some (.slice e))(hi:P.info? e=some i)(htx:P.underlying tx=some d)(hd:∀k,d≠ .int k)(hz:i.zero=some z){base:Option Addr}{n cap m:Nat}{xv:Value}{us vs:List Value}
 (hlen:(Builtin.lenOf xv).run P w=.ok m w)(hold:(Builtin.firstCells i.size n (.slice base n cap)).run P w.drew=.ok vs.toArray w.drew)(hnew:(Builtin.firstCells i.size m xv).run P w.drew=.ok us.toArray w.drew)(hfit:cap<n+m)
 (hB:(n+m)*i.bytes≤140737488355328)(hb:0<i.bytes):
 ∃(c:Nat) (rest:List Value),n+m≤c∧rest.length=(c - (n+m))*z.cells.size∧(Builtin.append_ #[t,tx] ty #[.slice base n cap,xv]).run P w=.ok (.slice (some ⟨w.heap.size,0,none⟩) (n+m) c) (w.drew.alloc (.cells (vs++us++rest).toArray e)):=by
 have hnx:¬(281474976710656<Builtin.nextslicecap (n+m) cap*i.bytes):=by
  have:=growslice_fits hfit hB
  omega
 have hb0:i.bytes≠0:=by omega
 obtain⟨c,hc⟩:∃c,c=(Question.appendCap (n+m) cap e).cut (w.tape w.drawn (Question.appendCap (n+m) cap e)):=⟨_,rfl⟩
 refine⟨c,(Builtin.zeroCells z.cells (c - (n+m))).toList,hc▸O8 _ _ _ _,by simp [Builtin.zeroCells],?_⟩
 have harr:vs.toArray++(us.toArray++Builtin.zeroCells z.cells (c - (n+m)))=(vs++(us++(Builtin.zeroCells z.cells (c - (n+m))).toList)).toArray:=by apply dN.1;simp
 have hzz:∀w0:World,(zeroValue e).run P w0=.ok z w0:=fun w0=>by simp [zeroValue,typeInfo,hi,hz]
 unfold Builtin.append_
 simp only[List.getElem?_toArray,lL,lM,Sem.run_bind,run_underlying ht,Result.andThen_ok,sizeOf,typeInfo,run_program,hi,Sem.run_pure,run_underlying htx]
 have hnf:¬(n+m≤cap):=by omega
 have hroom:∀(x:Nat) (w0:World),(askRoom x).run P w0=.ok () w0:=fun x w0=>by
  unfold askRoom
  split
  ·rfl
  ·rfl
 cases d <;> first
  |exact absurd rfl (hd _)
  |(simp [hlen,hnf,hnx,hb0,hi,hold,hnew,hzz,hroom,newRow,Question.forced,IntKind.max,IntKind.bits,IntKind.signed,←hc,harr];done)
end
abbrev QU:=FuncId×List AV
structure LInstr where
 dst:Option Nat
 op:LOp
 guard:Option (Nat×Bool)
 deriving Inhabited
inductive Out where
 |ret (v:AV)
 |pan (v:AV)
def OC (κ:Kn):Out→Ending→Prop
 | .ret v,e=>∃u,e=.returned u∧Qc κ v u
 | .pan v,e=>∃u,e=.panicked [{v:=u,recovered:=false}]∧Qc κ v u
def WJ (P:Program)(f:FuncId):Bool:=
 match P.funcs[f]? with
 |some fn=>fn.body.isSome&&fn.name != "runtime.NumGoroutine"
 |none=>false
def Qt (P:Program)(G:Nat→Option (List AV))(f:FuncId)(args:List AV)(A:Q3)(K:Out→Q3→Prop):Prop:=
 WJ P f=true∧∀κ w,Rel G κ A w→∀vs:Array Value,Qi κ args vs.toList→Calls P f vs w fun e w'=>∃κ' A' o,Rel G κ' A' w'∧Step κ A w κ' A' w'∧OC κ' o e∧K o A'
theorem Qt.mono {P:Program}{G:Nat→Option (List AV)}{f:FuncId}{args:List AV}{A:Q3}{K K':Out→Q3→Prop}(h:Qt P G f args A K)(hk:∀o A',K o A'→K' o A'):Qt P G f args A K':=
 ⟨h.1,fun κ w hr vs hv=>(h.2 κ w hr vs hv).mono fun _ _ ⟨κ',A',o,h1,h2,h3,h4⟩=>⟨κ',A',o,h1,h2,h3,hk _ _ h4⟩⟩
def putD (env:Qo):Option Nat→AV→Qo
 |some d,v=>env.put d v
 |none,_=>env
def Yu {α:Type}(o:Option α)(K:α→Prop):Prop:=
 match o with
 |some v=>K v
 |none=>False
@[simp] theorem Jp {α:Type} (v:α) (K:α→Prop):Yu (some v) K=K v:=rfl
@[simp] theorem vY {α:Type} (K:α→Prop):Yu none K=False:=rfl
def UO (sz:Nat):AV→Option (Nat×List AV)
 | .slice sz' m ds _=>if sz'=sz then some (m,ds)else none
 | .raw (.slice none 0 0)=>some (0,[])
 | .str s=>if sz=1 then some (s.length,s.map fun b=>.raw (Yz b))else none
 |_=>none
def LH (A:Q3)(el:TypeId)(sz bytes:Nat)(s x:AV)(K:AV→Q3→Prop):Prop:=
 Yu (UO sz x) fun(m,ds)=>match s with
  | .raw (.slice none 0 0)=>if m=0 then K s A else m*bytes≤140737488355328∧∀t,A t=none→(el=Wv→t % 2=1)→K (.slice sz m ds (some t)) (A.upd t (some .tip))
  | .slice sz' n cs (some t)=>sz'=sz∧A t=some .tip∧(n+m)*bytes≤140737488355328∧ds.all AV.one=true∧∀t',A t'=none→(el=Wv→t % 2=1→t' % 2=1)→K (.slice sz (n+m) (cs++ds) (some t')) ((A.upd t none).upd t' (some .tip))
  |_=>False
def Oh (fk:FK)(k v:AV)(es:List (AV×AV)):Option (List (AV×AV)):=
 if YS fk k then match VN k es with
  |some none=>some (es++[(k,v)])
  |_=>none
 else none
def Xz (sz len:Nat)(zero:List Value)(parts:List (Nat×AV)):Option (List AV):=
 VP ((List.range (len*sz)).map fun i=>Ze (zero.getD (i % zero.length) default)) (parts.map fun(i,v)=>(i*sz,sz,v))
section
variable (P:Program)(G:Nat→Option (List AV))
abbrev KV:=AV→List QU→Q3→Prop
abbrev KS:=Qo→List QU→Q3→Prop
abbrev XS:=List QU→AV→Q3→Prop
def VB (lo:LOp)(env:Qo)(ds:List QU)(A:Q3)(K:KV)(X:XS):Prop:=
 match lo with
 | .alloc el zero=>∀id,A id=none→(el=Ol→id % 2=1)→K (.ptr id 0) ds (A.upd id (some (.cells (zero.map Ze))))
 | .box _ x=>∀id,A id=none→K (.ptr id 0) ds (A.upd id (some (.cells (Qs G env x).cells)))
 | .store sz a v=>match Qs G env a with
  | .ptr id o=>Yu (A id) fun ob=>match ob with
   | .cells cs=>(Qs G env v).cells.length=sz∧o+sz≤cs.length∧(Qs G env v).cells.all AV.one=true∧K (Ja) ds (A.upd id (some (.cells (W8 cs o (Qs G env v).cells))))
   |_=>False
  |_=>False
 | .bslice _ sz len zero parts=>Yu (Xz sz len zero (parts.map fun(i,x)=>(i,Qs G env x))) fun cs=>∀t,A t=none→K (.slice sz len cs (some t)) ds (A.upd t (some .tip))
 | .s2b _ x=>match Qs G env x with
  | .str s=>K ((.slice 1 s.length (s.map fun b=>.raw (Yz b)) none)) ds A
  |_=>False
 | .app el sz bytes s x=>LH A el sz bytes (Qs G env s) (Qs G env x) fun v A'=>K (v) ds A'
 | .call f args=>match Qs G env f with
  | .func (.func fid) first cap=>Qt P G fid (first++args.map (Qs G env)++cap) A fun o A'=>match o with
   | .ret v=>K (v) ds A'
   | .pan v=>X ds v A'
  |_=>False
 | .dfr f args=>match Qs G env f with
  | .func (.func fid) first cap=>K (Ja) ((fid,first++args.map (Qs G env)++cap)::ds) A
  |_=>False
 | .pan x=>match Qs G env x with
  | .iface t v=>X ds (.iface t v) A
  |_=>False
 | .mkMap=>∀id,A id=none→(∀(j:Nat) (m:Option Nat) (left:List (AV×AV)) (last:Option (AV×AV)),A j=some (.mit m left last)→m≠some id)→K (.map id) ds (A.upd id (some (.mp [])))
 | .mset fk k v m=>match Qs G env m with
  | .map id=>Yu (A id) fun ob=>match ob with
   | .mp es=>(∀(j:Nat) (m:Option Nat) (left:List (AV×AV)) (last:Option (AV×AV)),A j=some (.mit m left last)→m≠some id)∧Yu (Oh fk (Qs G env k) (Qs G env v) es) fun es'=>K (Ja) ds (A.upd id (some (.mp es')))
   |_=>False
  |_=>False
 | .rng x=>match Qs G env x with
  | .raw (.map none)=>∀id,A id=none→K (.ptr id 0) ds (A.upd id (some (.mit none [] none)))
  | .map m=>Yu (A m) fun ob=>match ob with
   | .mp es=>∀id,A id=none→K (.ptr id 0) ds (A.upd id (some (.mit (some m) es none)))
   |_=>False
  |_=>False
 | .nxt x=>match Qs G env x with
  | .ptr id 0=>Yu (A id) fun ob=>match ob with
   | .mit m left _=>(left=[]→K (.tuple [.raw (.bool false)]) ds A)∧
    ∀(j:Nat) (k v:AV),left[j]? =some (k,v)→K (.tuple [.raw (.bool true),k,v]) ds (A.upd id (some (.mit m (left.eraseIdx j) (some (k,v)))))
   |_=>False
  |_=>False
 | .ent x=>match Qs G env x with
  | .ptr id 0=>Yu (A id) fun ob=>match ob with
   | .mit (some _) _ (some (k,v))=>K (.tuple [k,v]) ds A
   |_=>False
  |_=>False
 |lo=>Yu (Qw G env A lo) fun v=>K (v) ds A
def UQ (want:Bool):AV→Option Bool
 | .raw (.bool b)=>some (b==want)
 | .raw _=>some false
 |_=>none
def YJ (i:LInstr)(env:Qo)(ds:List QU)(A:Q3)(K:KS)(X:XS):Prop:=
 match i.guard with
 |none=>VB P G i.op env ds A (fun v ds A=>K (putD env i.dst v) ds A) X
 |some (j,want)=>match UQ want (env j)with
  |some true=>VB P G i.op env ds A (fun v ds A=>K (putD env i.dst v) ds A) X
  |some false=>K (putD env i.dst Ja) ds A
  |none=>False
def Yy (rt:List Nat)(env:Qo):Qo:=fun t=>if rt.contains t then env t else Ja
abbrev XE:=Qo→List QU→AV→Q3→Prop
def YL (rt:List Nat):List LInstr→Qo→List QU→Q3→KS→XE→Prop
 |[],env,ds,A,K,_=>K env ds A
 |i::r,env,ds,A,K,X=>YJ P G i env ds A (fun env ds A=>YL rt r env ds A K X) (X (Yy rt env))
end
def Np (P:Program)(o:Oper):Option LOp:=
 match o.op with
 | .alloc e=>(VF P e).map fun z=>.alloc e z.cells.toList
 | .box e x=>some (.box e x)
 | .store t a v=>(P.info? t).map fun i=>.store i.size a v
 | .buildSlice t len parts=>match P.underlying t with
  |some (.slice e)=>match P.info? e,VF P e with
   |some i,some z=>if 0<len*i.size∧len*i.size≤16777216∧0<z.cells.size then some (.bslice e i.size len z.cells.toList parts.toList)else if len=0∧parts.toList=[]then some (.bslice e i.size 0 z.cells.toList [])else none
   |_,_=>none
  |_=>none
 | .convert s d x=>match P.underlying s,P.underlying d with
  |some .string,some (.slice e)=>match P.underlying e with
   |some (.int .u8)=>some (.s2b e x)
   |_=>none
  |_,_=>none
 | .call {callee:=.builtin .append,args,argTypes}=>match args.toList,argTypes.toList with
  |[s,x],[t,tx]=>match P.underlying t,P.underlying tx with
   |some (.slice _),some (.int _)=>none
   |some (.slice e),some _=>match P.info? e with
    |some i=>match i.zero with
     |some z=>if 0<i.bytes∧z.cells.size=i.size then some (.app e i.size i.bytes s x)else none
     |none=>none
    |none=>none
   |_,_=>none
  |_,_=>none
 | .call {callee:=.value f,args,..}=>some (.call f args.toList)
 | .defer {callee:=.value f,args,..}=>some (.dfr f args.toList)
 | .panic x=>some (.pan x)
 | .makeMap _ none=>some .mkMap
 | .insert t m k v| .mapUpdate t m k v=>match P.underlying t with
  |some (.map kt _)=>match K5 P kt with
   |some fk=>some (.mset fk k v m)
   |none=>none
  |_=>none
 | .range t x=>match P.underlying t with
  |some (.map _ _)=>some (.rng x)
  |_=>none
 | .next it false=>some (.nxt it)
 | .entry it=>some (.ent it)
 |_=>none
def Ou (P:Program)(o:Oper):Option LOp:=(Ot P o).or (Np P o)
def KP (n:Nat):Option Nat→Bool
 |some d=>decide (d<n)
 |none=>true
section
variable {P:Program}{G:Nat→Option (List AV)}{κ:Kn}{A:Q3}{w:World}
theorem OW:∀(as:List (Nat×Nat×AV)) (cs cs':List AV),VP cs as=some cs'→cs'.length=cs.length
 |[],cs,cs',h=>by simp only[VP,cA]at h;rw[h]
 |(off,size,v)::as,cs,cs',h=>by
  rw[Xv]at h
  split at h
  ·rename_i hc
   rw[OW as _ _ h]
   simp;omega
  ·simp at h
theorem Is (κ:Kn)(f:Nat→Value):∀l:List Nat,Qi κ (l.map fun i=>Ze (f i)) (l.map f)
 |[]=>by simp [Qi]
 |i::l=>by simp only[cJ,Qi];exact⟨_,_,rfl,OI κ _,Is κ f l⟩
theorem Rz (h:Rel G κ A w){t e sz len:Nat}{inf:TypeInfo}{z:Value}{parts:Array (Nat×Value)}{aparts:List (Nat×AV)}{cs:List AV}(ht:P.underlying t=some (.slice e))(hi:P.info? e=some inf)(hz:VF P e=some z)(hsz:sz=inf.size)
 (hlen:(0<len*sz∧len*sz≤16777216)∨(len=0∧parts=#[]∧aparts=[]))
 (hp:parts.toList.length=aparts.length)(hr:∀(i:Nat) (p:Nat×Value) (q:Nat×AV),parts.toList[i]? =some p→aparts[i]? =some q→p.1=q.1∧Qc κ q.2 p.2)(hl:Xz sz len z.cells.toList aparts=some cs):
 ∃κ' t' u w',(Instr.buildSlice t len parts).run P w=.ok u w'∧κ.s t'=none∧A t'=none∧Rel G κ' (A.upd t' (some .tip)) w'∧Step κ A w κ' (A.upd t' (some .tip)) w'∧Qc κ' (.slice sz len cs (some t')) u:=by
 subst hsz
 have hzz:inf.zero=some z:=by simpa[VF,hi]using hz
 unfold Xz at hl
 have hcl:=OW _ _ _ hl
 simp only[lG,List.length_range]at hcl
 rcases hlen with⟨hl1,hl2⟩|⟨rfl,rfl,rfl⟩
 ·obtain⟨cells',k1,k2⟩:=Kk (κ:=κ) (fun i=>some (i*inf.size,inf.size)) parts.toList _ _ cs ((Array.range (len*inf.size)).map (z.cells[· % z.cells.size]!))
   (by
    have:=Is κ (fun i=>z.cells.toList.getD (i % z.cells.toList.length) default) (List.range (len*inf.size))
    have e:((Array.range (len*inf.size)).map (z.cells[· % z.cells.size]!)).toList=(List.range (len*inf.size)).map fun i=>z.cells.toList.getD (i % z.cells.toList.length) default:=by
     simp only[Array.toList_map,Array.toList_range,dR]
     apply List.map_congr_left
     intro i _
     simp [Array.getElem!_eq_getD,Array.getD_eq_getD_getElem?,List.getD_eq_getElem?_getD]
    rw[e]
    exact this)
   (by simpa using hp)
   (fun i p q h1 h2=>by
    simp only[List.getElem?_map,cG]at h2
    obtain⟨q',h2,rfl⟩:=h2
    obtain⟨h3,h4⟩:=hr i p q' h1 h2
    exact⟨by rw[h3],h4⟩) hl
  have hrun:=run_buildSlice (P:=P) w t e len parts cells' inf z ht hi hzz (by omega) (by omega) k1
  have hk:=k2.length
  simp only[dR]at hk
  obtain⟨κ',t',g1,g2,_,g3,g4,g5⟩:=h.newSlice (sz:=inf.size) (n:=len) (cap:=len) (arr:=cells') (el:=e) k2 hcl (by rw[dX (by simp;omega)]) (fG _) (by omega)
  exact⟨κ',t',_,_,hrun,g1,g2,g3,g4,g5⟩
 ·simp only[dH,VP,Nat.zero_mul,List.range_zero,cA]at hl
  subst hl
  obtain⟨κ',t',g1,g2,_,g3,g4,g5⟩:=h.newSlice (sz:=inf.size) (n:=0) (cap:=0) (cs:=[]) (us:=[]) (arr:=#[]) (el:=e) (by simp [Qi]) (by simp) (by simp) (fG _) (by simp)
  refine⟨κ',t',_,_,?_,g1,g2,g3,g4,g5⟩
  have e0:Array.map (fun _=>(default:Value)) (Array.range 0)=#[]:=by apply dN.1;simp
  simp [Instr.buildSlice,run_underlying ht,sizeOf,typeInfo,hi,Instr.fill,newRow,e0]
theorem IW (κ:Kn):∀l:List UInt8,Qi κ (l.map fun b=>.raw (Yz b)) (l.map Yz)
 |[]=>by simp [Qi]
 |b::l=>by simp only[cJ,Qi];exact⟨_,_,rfl,Jy,IW κ l⟩
theorem NT (h:Rel G κ A w){s d e:TypeId}{l:List UInt8}(hs:P.underlying s=some .string)(hd:P.underlying d=some (.slice e))(he:P.underlying e=some (.int .u8)):
 ∃κ' u w',(convert s d (.string ⟨l.toArray⟩)).run P w=.ok u w'∧Rel G κ' A w'∧Step κ A w κ' A w'∧Qc κ' (.slice 1 l.length (l.map fun b=>.raw (Yz b)) none) u:=by
 have hsz:(⟨l.toArray⟩:ByteArray).size=l.length:=by simp [ByteArray.size]
 obtain⟨arr,harr⟩:∃arr,arr=Go.Lib.bytesCells w e ⟨l.toArray⟩:=⟨_,rfl⟩
 have hcap:l.length≤grownCap w (⟨l.toArray⟩:ByteArray).size 0 e:=by rw[hsz];exact O8 _ _ _ _
 have htake:arr.toList.take l.length=l.map Yz:=by
  rw[harr]
  unfold Go.Lib.bytesCells
  rw[Array.toList_append,List.take_append_of_le_length (by simp)]
  simp only[Array.toList_map]
  rw[dX (by simp)]
  rfl
 have h1:Rel G κ A w.drew:=Rel.heap (w:=w) rfl h
 obtain⟨κ',e1,r1,s1,c1,_,_⟩:=h1.newImm (arr:=arr) (el:=e) (fr:=(arr.size,arr.size+1)) (cs:=l.map fun b=>.raw (Yz b)) (by simp only[lG];rw[htake];exact IW κ l)
 have hheap:(Go.Lib.bytesWorld w e ⟨l.toArray⟩).heap=(w.drew.alloc (.cells arr e (arr.size,arr.size+1))).heap:=by
  apply Array.ext_getElem?
  intro j
  have e2:(w.drew.alloc (.cells arr e (arr.size,arr.size+1))).heap[w.heap.size]? =some (.cells arr e (arr.size,arr.size+1)):=Yi w.drew _
  have e3:(w.drew.alloc (.cells arr e (arr.size,arr.size+1))).heap.size=w.heap.size+1:=Hq w.drew _
  rcases Nat.lt_trichotomy j w.heap.size with hj|hj|hj
  ·rw[Go.Lib.bytesWorld_at_old w e _ j hj]
   exact(heap_alloc w.drew (.cells arr e (arr.size,arr.size+1)) j hj).symm
  ·subst hj
   rw[Go.Lib.bytesWorld_at_new,←harr,e2]
  ·rw[lD (by rw[Go.Lib.bytesWorld_size];omega),lD (by omega)]
 have hb1:(Go.Lib.bytesWorld w e ⟨l.toArray⟩).tape=w.tape∧(Go.Lib.bytesWorld w e ⟨l.toArray⟩).os=w.os∧(Go.Lib.bytesWorld w e ⟨l.toArray⟩).output=w.output:=⟨rfl,rfl,rfl⟩
 refine⟨κ',_,_,Go.Lib.run_convert_string_bytes (P:=P) w s d e ⟨l.toArray⟩ hs hd he,Rel.heap hheap r1,?_,?_⟩
 ·have t1:Step κ A w κ A w.drew:=Step.heap (w:=w) (w':=w.drew) rfl rfl rfl rfl
  have t2:=t1.trans s1
  exact t2.trans (Step.heap hheap hb1.1 hb1.2.1 hb1.2.2)
 ·simp only[Qc]
  exact .inr ⟨w.heap.size,0,_,by rw[hsz],by rw[hsz]at hcap;exact hcap,by simp,c1,by simp⟩
theorem DK (h:Rel G κ A w){sz m:Nat}{x:AV}{u:Value}{ds:List AV}(hx:Qc κ x u)(hn:UO sz x=some (m,ds)):
 ∃us,Qi κ ds us∧ds.length=m*sz∧(Builtin.lenOf u)=Sem.pure m∧∀w':World,w'.heap=w.heap→(Builtin.firstCells sz m u).run P w'=.ok us.toArray w':=by
 unfold UO at hn
 split at hn
 ·split at hn
  ·rename_i hsz
   subst hsz
   simp only[cA,cW]at hn
   obtain⟨rfl,rfl⟩:=hn
   simp only[Qc]at hx
   rcases hx with⟨_,rfl,rfl,a,rfl⟩|⟨b,o,cap,rfl,_,hl,hc,_⟩
   ·exact⟨[],by simp [Qi],by simp,rfl,fun w' _=>by cases a <;> simp [Builtin.firstCells,loadCells,loadCellsFrom]⟩
   obtain⟨us,k1,k2,k3⟩:=W4 h _ o hc
   refine⟨us,k1,hl,rfl,fun w' hw=> ?_⟩
   simp only[Builtin.firstCells,←hl,←k2]
   refine run_loadCells_list (P:=P) (w:=w') ⟨b,o,none⟩ us fun j v hv=> ?_
   rw[Vd,KM hw]
   exact k3 j v hv
  ·simp at hn
 ·simp only[cA,cW]at hn
  obtain⟨rfl,rfl⟩:=hn
  simp only[Qc]at hx;subst hx
  exact⟨[],by simp [Qi],by simp,rfl,fun w' _=>rfl⟩
 ·split at hn
  ·rename_i s hsz
   subst hsz
   simp only[cA,cW]at hn
   obtain⟨rfl,rfl⟩:=hn
   simp only[Qc]at hx;subst hx
   refine⟨s.map Yz,IW κ s,by simp,by simp [Builtin.lenOf,ByteArray.size];rfl,fun w' _=> ?_⟩
   simp only[Builtin.firstCells]
   rw[Go.Lib.extract_eq]
   simp [Yz]
  ·simp at hn
 ·simp at hn
theorem RA (h:Rel G κ A w){t tx ty e:TypeId}{inf:TypeInfo}{d:TypeDesc}{z:Value}(ht:P.underlying t=some (.slice e))(hi:P.info? e=some inf)(htx:P.underlying tx=some d)(hd:∀k,d≠ .int k)(hz:inf.zero=some z)(hzs:z.cells.size=inf.size)(hb:0<inf.bytes)
 {s x:AV}{us ux:Value}(hs:Qc κ s us)(hx:Qc κ x ux){K:AV→Q3→Prop}(hw:LH A e inf.size inf.bytes s x K):
 ∃κ' A' v u w',(Builtin.append_ #[t,tx] ty #[us,ux]).run P w=.ok u w'∧Rel G κ' A' w'∧Step κ A w κ' A' w'∧Qc κ' v u∧K v A':=by
 unfold LH at hw
 cases hn:UO inf.size x with
 |none=>rw[hn]at hw;exact hw.elim
 |some p=>
  obtain⟨m,ds⟩:=p
  rw[hn]at hw
  simp only[Jp]at hw
  obtain⟨nus,k1,k2,k3,k4⟩:=DK (P:=P) h hx hn
  have hlen:∀w0:World,(Builtin.lenOf ux).run P w0=.ok m w0:=fun w0=>by rw[k3];rfl
  have hnl:=k1.length
  split at hw
  ·
   have hs0:=hs
   simp only[Qc]at hs0;subst hs0
   split at hw
   ·rename_i hm
    subst hm
    have hnil:nus=[]:=fJ.1 (by omega)
    subst hnil
    exact⟨κ,A,_,_,w,Ly (w':=w) ht hi htx hd (hlen w) (k4 w rfl) (by omega) (fun _=>rfl) (fun _ hh=>by cases hh),h,Step.refl _ _ _,hs,hw⟩
   ·rename_i hm
    obtain⟨hB,hK⟩:=hw
    obtain⟨c,rest,hc,hrest,hrun⟩:=Hv (w:=w) (base:=none) (n:=0) (cap:=0) (vs:=[]) (us:=nus) (ty:=ty) ht hi htx hd hz (hlen w) rfl (k4 w.drew rfl) (by omega) (by simpa using hB) hb
    have h1:Rel G κ A w.drew:=Rel.heap (w:=w) rfl h
    obtain⟨κ',t',g1,g2,g6,g3,g4,g5⟩:=h1.newSlice (sz:=inf.size) (n:=0+m) (cap:=c) (arr:=([]++nus++rest).toArray) (el:=e) (us:=nus) k1 (by simpa using k2) (by simp [←hnl]) hc (by
     have:=Nat.sub_add_cancel hc
     have e1:(c - (0+m))*inf.size+m*inf.size=c*inf.size:=by rw[←Nat.add_mul];congr 1;omega
     simp only[List.size_toArray,cC,hrest,hzs,cL];omega)
    refine⟨κ',_,_,_,_,hrun,g3,?_,g5,by simpa using hK t' g2 g6⟩
    exact(Step.heap (w:=w) (w':=w.drew) rfl rfl rfl rfl).trans g4
  ·
   rename_i sz' n cs tp
   obtain⟨rfl,htip,hB,hone,hK⟩:=hw
   have hs0:=hs
   simp only[Qc]at hs0
   rcases hs0 with⟨hs0,_⟩|⟨b,o,cap,rfl,hcap,hl,hc,htp⟩
   ·cases hs0
   have hst:=htp tp rfl
   by_cases hfit:n+m≤cap
   ·have hE:o+n*inf.size+m*inf.size≤o+cap*inf.size:=by
     have:=fF inf.size hfit
     rw[Nat.add_mul]at this
     omega
    obtain⟨w',κ',t',q1,q2,q3,q8,q4,q5,q6,q7⟩:=h.inPlace (P:=P) (sz:=inf.size) (m:=m) (ds:=ds) (us:=nus) htip hst k1 k2 hE (LT k1 hone)
    refine⟨κ',_,.slice inf.size (n+m) (cs++ds) (some t'),_,w',Ly (w':=w') ht hi htx hd (hlen w) (k4 w rfl) hfit (fun hh=>by cases hh) (fun a ha=>by
     simp only[cA]at ha;subst ha
     rw[Vd];exact q1),q4,q5,?_,hK t' q3 fun _=>q8⟩
    simp only[Qc]
    refine .inr ⟨b,o,cap,rfl,hfit,by simp [hl,k2,Nat.add_mul],Zx.append (Zx.mono q5.le _ _ _ hc) (by rw[hl];exact q6),fun t0 ht0=> ?_⟩
    simp only[cA]at ht0;subst ht0
    rw[q7,Nat.add_mul,Nat.add_assoc]
   ·obtain⟨us0,p1,p2,p3⟩:=W4 h cs o hc
    have hold:(Builtin.firstCells inf.size n (.slice (some ⟨b,o,none⟩) n cap)).run P w.drew=.ok us0.toArray w.drew:=by
     simp only[Builtin.firstCells,←hl,←p2]
     refine run_loadCells_list (P:=P) (w:=w.drew) ⟨b,o,none⟩ us0 fun j v hv=> ?_
     rw[Vd]
     exact p3 j v hv
    obtain⟨c,rest,hcc,hrest,hrun⟩:=Hv (w:=w) (base:=some ⟨b,o,none⟩) (n:=n) (cap:=cap) (vs:=us0) (us:=nus) (ty:=ty) ht hi htx hd hz (hlen w) hold (k4 w.drew rfl) (by omega) hB hb
    have h1:Rel G κ (A.upd tp none) w.drew:=Rel.heap (w:=w) rfl (h.drop htip)
    obtain⟨κ',t',g1,g2,g6,g3,g4,g5⟩:=h1.newSlice (sz:=inf.size) (n:=n+m) (cap:=c) (arr:=(us0++nus++rest).toArray) (el:=e) (us:=us0++nus) (Qi.append p1 k1) (by simp [hl,k2,Nat.add_mul])
     (by have e0:(cs++ds).length=(us0++nus).length:=by simp [p2,hnl]
         rw[e0];show((us0++nus)++rest).take (us0++nus).length=_;rw[List.take_left]) hcc (by
     have e1:(c - (n+m))*inf.size+(n+m)*inf.size=c*inf.size:=by rw[←Nat.add_mul];congr 1;omega
     have e2:(n+m)*inf.size=n*inf.size+m*inf.size:=Nat.add_mul _ _ _
     simp only[List.size_toArray,cC,hrest,hzs,p2,hl,hnl,k2];omega)
    have ht'n:A t'=none:=by
     by_cases e0:t'=tp
     ·subst e0;rw[hst]at g1;simp at g1
     ·rw[Qa _ _ _ e0]at g2;exact g2
    refine⟨κ',_,_,_,_,hrun,g3,?_,g5,hK t' ht'n fun he _=>g6 he⟩
    have t1:Step κ A w κ A w.drew:=Step.heap (w:=w) (w':=w.drew) rfl rfl rfl rfl
    exact(t1.drop tp).trans g4
  ·exact hw.elim
end
section
variable {P:Program}{G:Nat→Option (List AV)}{κ:Kn}{A:Q3}{w:World}
theorem Yj.append:∀{es fs:List (AV×AV)} {l k:List MapEntry},Yj κ es l→Yj κ fs k→Yj κ (es++fs) (l++k)
 |[],_,_,_,h,h2=>by simp only[Yj]at h;subst h;simpa using h2
 |(_,_)::_,_,_,_,h,h2=>by
  simp only[Yj]at h
  obtain⟨x,xs,rfl,h3,h4,h5⟩:=h
  simp only[cF,Yj]
  exact⟨x,_,rfl,h3,h4,Yj.append h5 h2⟩
theorem SI {kt:TypeId}{fk:FK}(hfk:K5 P kt=some fk):∃d,P.underlying kt=some d∧((fk=.b∧d=.bool)∨(fk=.i∧∃q,d=.int q)∨(fk=.s∧d=.string)):=by
 unfold K5 at hfk
 split at hfk <;> simp only[cA,reduceCtorEq]at hfk <;> subst hfk <;> rename_i hd
 ·exact⟨_,hd,.inl ⟨rfl,rfl⟩⟩
 ·exact⟨_,hd,.inr (.inl ⟨rfl,_,rfl⟩)⟩
 ·exact⟨_,hd,.inr (.inr ⟨rfl,rfl⟩)⟩
theorem Eb {kt:TypeId}{fk:FK}(hfk:K5 P kt=some fk)(b:Bool)(u:Value):(Instr.checkKey b 10000 kt u).run P w=.ok () w:=by
 obtain⟨d,hd,hdk⟩:=SI hfk
 unfold Instr.checkKey
 rcases hdk with⟨_,rfl⟩|⟨_,q,rfl⟩|⟨_,rfl⟩ <;> simp [run_underlying hd]
theorem Ec {kt:TypeId}{fk:FK}(hfk:K5 P kt=some fk){k:AV}{u:Value}{es:List (AV×AV)}{l:List MapEntry}{r:Option AV}(hok:YS fk k=true)(hl:Yj κ es l)(hk:Qc κ k u)(hf:VN k es=some r):
 ∃y:Option (Nat×Value),(Instr.findKey kt u l).run P w=.ok y w∧Tw κ r y:=by
 obtain⟨d,hd,hdk⟩:=SI hfk
 obtain⟨y,h1,h2⟩:=WM es l d k u 0 r hl hk hf
  (fun q x hx=>by subst hx;rcases hdk with⟨rfl,rfl⟩|⟨_,h⟩|⟨rfl,rfl⟩ <;> simp [YS]at hok;exact h)
  (fun x hx=>by subst hx;rcases hdk with⟨rfl,rfl⟩|⟨rfl,h⟩|⟨rfl,rfl⟩ <;> simp [YS]at hok;rfl)
  (by unfold YS at hok;split at hok
      ·exact .inl ⟨_,_,rfl⟩
      ·exact .inr (.inl ⟨_,rfl⟩)
      ·simp at hok)
 exact⟨y,by simp [Instr.findKey,run_underlying hd,h1],h2⟩
theorem Hu (w:World)(b:Nat)(o:Obj)(k:Nat)(h:k≠b):({w with heap:=w.heap.setIfInBounds b o}:World).heap[k]? =w.heap[k]? :=by
 simp only[Array.getElem?_setIfInBounds]
 rw[fD (fun e=>h e.symm)]
theorem It (w:World)(b:Nat)(o:Obj)(h:b<w.heap.size):({w with heap:=w.heap.setIfInBounds b o}:World).heap[b]? =some o:=by
 simp [h]
theorem Ll (h:Rel G κ A w){t kt vt:TypeId}{fk:FK}(ht:P.underlying t=some (.map kt vt))(hfk:K5 P kt=some fk){id:Nat}{es es':List (AV×AV)}{k v:AV}{um uk uv:Value}(hid:A id=some (.mp es))(hum:Qc κ (.map id) um)(huk:Qc κ k uk)(huv:Qc κ v uv)
 (hm:∀(j:Nat) (m:Option Nat) (left:List (AV×AV)) (last:Option (AV×AV)),A j=some (.mit m left last)→m≠some id)(hset:Oh fk k v es=some es'):
 ∃w',(Instr.mapUpdate t um uk uv).run P w=.ok () w'∧Rel G κ (A.upd id (some (.mp es'))) w'∧Step κ A w κ (A.upd id (some (.mp es'))) w':=by
 simp only[Qc]at hum
 obtain⟨b,e,E,hs,rfl⟩:=hum
 obtain⟨b',e',E',k1,k2⟩:=h.obj id _ hid
 rw[hs]at k1;simp only[cA,cW]at k1;obtain⟨rfl,rfl,rfl⟩:=k1
 obtain⟨⟨l,c,hl1,hl2,hl3,hl4⟩,hl5⟩:=k2
 unfold Oh at hset
 split at hset
 ·rename_i hok
  split at hset
  ·rename_i hf
   simp only[cA]at hset;subst hset
   obtain⟨y,hy1,hy2⟩:=Ec (P:=P) (w:=w) hfk hok hl2 huk hf
   cases y with
   |some y=>exact hy2.elim
   |none=>
    have hget:(getObj b).run P w=.ok (.map l c) w:=run_getObj_map (P:=P) w b l c hl1
    have hlt:=YU hl1
    have hrun:(Instr.mapUpdate t (.map (some b)) uk uv).run P w=.ok () {w with heap:=w.heap.setIfInBounds b (.map (l.push {key:=uk,val:=uv,born:=c}) (c+1))}:=by
     unfold Instr.mapUpdate
     simp only[Sem.run_bind,run_underlying ht,Result.andThen_ok,hget,Eb hfk,hy1]
     simp [setObj,Sem.run,hl1]
    have hkeep:∀x,x<w.heap.size→¬Z5 w b (.mp es) x→({w with heap:=w.heap.setIfInBounds b (.map (l.push {key:=uk,val:=uv,born:=c}) (c+1))}:World).heap[x]? =w.heap[x]? :=fun x _ hn=>Hu _ _ _ _ (by simpa[Z5]using hn)
    refine⟨_,hrun,h.turn hid hs hkeep (fun x i u hf hu=> ?_) ⟨⟨_,_,It w b _ hlt,?_,?_,?_⟩,hl5⟩ (fun x hf=>.inl (by simpa[Z5]using hf)) (fun _=>hm),
     .turn h hid hs (by simp) hkeep (fun x hf=>.inl (by simpa[Z5]using hf)) rfl rfl rfl⟩
    ·simp only[Z5]at hf;subst hf
     rw[hl5 i]at hu;simp at hu
    ·simp only[Array.toList_push]
     exact Yj.append hl2 (by simp only[Yj];exact⟨_,_,rfl,huk,huv,rfl⟩)
    ·intro x hx
     simp only[Array.toList_push,fW,dV]at hx
     rcases hx with hx|rfl
     ·have:=hl3 x hx;omega
     ·exact Nat.lt_succ_self _
    ·simp only[Array.toList_push,lH,cJ,dH,List.nodup_append]
     refine⟨hl4,by simp,fun x hx y hy=> ?_⟩
     simp only[List.mem_map]at hx
     obtain⟨z,hz,rfl⟩:=hx
     simp only[dV]at hy;subst hy
     have:=hl3 z hz;omega
  ·simp at hset
 ·simp at hset
theorem Rel.new_foot (h:Rel G κ A w){o:Obj}{ob:AObj}(hf:∀k,Z5 (w.alloc o) w.heap.size ob k→k=w.heap.size):∀k,Z5 (w.alloc o) w.heap.size ob k→¬U0 κ A (w.alloc o) k:=fun k hk ht=>by
 have:=hf k hk;subst this
 obtain⟨j,oj,x,k1,k2,k3⟩:=ht
 obtain⟨b,e,E,q1,q2⟩:=h.obj j oj k1
 rw[k2]at q1;simp only[cA]at q1;subst q1
 have:=q2.foot_lt ((ZW (heap_alloc w _ _ q2.block) _).1 k3)
 omega
theorem RE (h:Rel G κ A w){t kt vt:TypeId}(ht:P.underlying t=some (.map kt vt)){m:Nat}{es:List (AV×AV)}{u:Value}(hm:A m=some (.mp es))(hu:Qc κ (.map m) u):
 ∃id w' r,κ.s id=none∧A id=none∧(Instr.range t u).run P w=.ok r w'∧Rel G (κ.addS id (w.heap.size,0,0)) (A.upd id (some (.mit (some m) es none))) w'∧Step κ A w (κ.addS id (w.heap.size,0,0)) (A.upd id (some (.mit (some m) es none))) w'∧
  Qc (κ.addS id (w.heap.size,0,0)) (.ptr id 0) r:=by
 simp only[Qc]at hu
 obtain⟨b,e,E,hs,rfl⟩:=hu
 obtain⟨b',e',E',k1,k2⟩:=h.obj m _ hm
 rw[hs]at k1;simp only[cA,cW]at k1;obtain⟨rfl,rfl,rfl⟩:=k1
 obtain⟨⟨l,c,hl1,hl2,hl3,hl4⟩,hl5⟩:=k2
 obtain⟨id,h1,h2⟩:=h.fresh
 have hget:(getObj b).run P w=.ok (.map l c) w:=run_getObj_map (P:=P) w b l c hl1
 have hmid:m≠id:=fun e=>by subst e;rw[hs]at h1;simp at h1
 refine⟨id,w.alloc (.mapIter (some b) c #[] c),.pointer (some ⟨w.heap.size,0,none⟩),h1,h2,by simp [Instr.range,run_underlying ht,hget],(h.alloc0 _).track h1 ⟨⟨l,c,b,e,E,#[],?_,⟨es,?_⟩,?_,Yi w _,?_,by simp⟩,fun i=>h.i_none (fG _) i⟩
  (h.new_foot fun k hk=>by simpa[Z5]using hk) (fun g cs hg hk=>by simp only[Z5]at hk;have:=h.glob_lt hg;omega),Step.track h1 (Step.alloc0 h _) (fun k hk=>.inr (by simp only[Z5]at hk;omega)),TS (Xn _ _ _)⟩
 ·rw[Yh _ _ _ hmid];exact hs
 ·rw[Qa _ _ _ hmid];exact hm
 ·rw[heap_alloc w _ b (YU hl1)];exact hl1
 ·have e0:(l.toList.filter fun x=> !(#[]:Array Nat).contains x.born)=l.toList:=by simp
  rw[e0]
  exact Yj.mono (U9 h1 _) hl2
theorem NY (h:Rel G κ A w){t kt vt:TypeId}(ht:P.underlying t=some (.map kt vt)):
 ∃id w' r,κ.s id=none∧A id=none∧(Instr.range t (.map none)).run P w=.ok r w'∧Rel G (κ.addS id (w.heap.size,0,0)) (A.upd id (some (.mit none [] none))) w'∧Step κ A w (κ.addS id (w.heap.size,0,0)) (A.upd id (some (.mit none [] none))) w'∧
  Qc (κ.addS id (w.heap.size,0,0)) (.ptr id 0) r:=by
 obtain⟨id,h1,h2⟩:=h.fresh
 exact⟨id,w.alloc (.mapIter none 0 #[] 0),.pointer (some ⟨w.heap.size,0,none⟩),h1,h2,by simp [Instr.range,run_underlying ht],(h.alloc0 _).track h1 ⟨rfl,⟨_,_,_,Yi w _⟩,fun i=>h.i_none (fG _) i⟩
  (h.new_foot fun k hk=>by simpa[Z5]using hk) (fun g cs hg hk=>by simp only[Z5]at hk;have:=h.glob_lt hg;omega),Step.track h1 (Step.alloc0 h _) (fun k hk=>.inr (by simp only[Z5]at hk;omega)),TS (Xn _ _ _)⟩
end
theorem OV (f:MapEntry→Nat):∀(L:List MapEntry) (j:Nat) (x:MapEntry),(L.map f).Nodup→L[j]? =some x→L.filter (fun y=>f y !=f x)=L.eraseIdx j
 |[],j,x,_,h=>by simp at h
 |y::L,0,x,hn,h=>by
  simp at h;subst h
  simp only[cJ,List.nodup_cons,List.mem_map,not_exists,not_and]at hn
  simp only[List.filter_cons,bne_self_eq_false,cB,if_false,List.eraseIdx_cons_zero]
  refine List.filter_eq_self.2 fun z hz=> ?_
  simp only[bne_iff_ne,ne_eq]
  exact hn.1 z hz
 |y::L,j+1,x,hn,h=>by
  simp only[lM]at h
  simp only[cJ,List.nodup_cons,List.mem_map,not_exists,not_and]at hn
  have hne:f y≠f x:=fun e=>hn.1 x (List.mem_of_getElem? h) e.symm
  have hb:(f y !=f x)=true:=by simpa using hne
  rw[List.filter_cons,fC hb,List.eraseIdx_cons_succ,OV f L j x hn.2 h]
section
variable {P:Program}{G:Nat→Option (List AV)}{κ:Kn}{A:Q3}{w:World}
theorem Yj.get:∀{es:List (AV×AV)} {l:List MapEntry},Yj κ es l→∀(j:Nat) (x:MapEntry),l[j]? =some x→∃p,es[j]? =some p∧Qc κ p.1 x.key∧Qc κ p.2 x.val
 |[],_,h,j,x,hx=>by simp only[Yj]at h;subst h;simp at hx
 |(k,v)::es,_,h,j,x,hx=>by
  simp only[Yj]at h
  obtain⟨y,ys,rfl,h2,h3,h4⟩:=h
  cases j with
  |zero=>simp at hx;subst hx;exact⟨(k,v),rfl,h2,h3⟩
  |succ j=>simpa using Yj.get h4 j x (by simpa using hx)
theorem Yj.erase:∀{es:List (AV×AV)} {l:List MapEntry},Yj κ es l→∀j,Yj κ (es.eraseIdx j) (l.eraseIdx j)
 |[],_,h,j=>by simp only[Yj]at h;subst h;simp [Yj]
 |(k,v)::es,_,h,j=>by
  simp only[Yj]at h
  obtain⟨y,ys,rfl,h2,h3,h4⟩:=h
  cases j with
  |zero=>simpa using h4
  |succ j=>
   simp only[List.eraseIdx_cons_succ,Yj]
   exact⟨y,_,rfl,h2,h3,Yj.erase h4 j⟩
theorem FY (h:Rel G κ A w){id ty:Nat}{left:List (AV×AV)}{last:Option (AV×AV)}{u:Value}(hid:A id=some (.mit none left last))(hu:Qc κ (.ptr id 0) u):left=[]∧(Instr.next u false ty).run P w=.ok (.tuple #[.bool false]) w:=by
 simp only[Qc]at hu
 obtain⟨b,e,E,hs,rfl⟩:=hu
 obtain⟨b',e',E',k1,k2⟩:=h.obj id _ hid
 rw[hs]at k1;simp only[cA,cW]at k1;obtain⟨rfl,rfl,rfl⟩:=k1
 obtain⟨h1,⟨s,x,y,h2⟩,_⟩:=k2
 have hget:(getObj b).run P w=.ok (.mapIter none s x y) w:=by simp [getObj,Sem.run,h2]
 exact⟨h1,by simp [Instr.next,hget]⟩
theorem Pv (h:Rel G κ A w){id ty m:Nat}{left:List (AV×AV)}{last:Option (AV×AV)}{u:Value}(hid:A id=some (.mit (some m) left last))(hu:Qc κ (.ptr id 0) u):
 (left=[]∧(Instr.next u false ty).run P w=.ok (.tuple #[.bool false]) w)∨
 ∃(j:Nat) (k v:AV) (uk uv:Value) (w':World),left[j]? =some (k,v)∧(Instr.next u false ty).run P w=.ok (.tuple #[.bool true,uk,uv]) w'∧Qc κ k uk∧Qc κ v uv∧Rel G κ (A.upd id (some (.mit (some m) (left.eraseIdx j) (some (k,v))))) w'∧
  Step κ A w κ (A.upd id (some (.mit (some m) (left.eraseIdx j) (some (k,v))))) w':=by
 simp only[Qc]at hu
 obtain⟨b,e,E,hs,rfl⟩:=hu
 obtain⟨b',e',E',k1,k2⟩:=h.obj id _ hid
 rw[hs]at k1;simp only[cA,cW]at k1;obtain⟨rfl,rfl,rfl⟩:=k1
 obtain⟨⟨l,c,mb,me,mE,seen,h1,⟨es,hes⟩,h3,h4,h5,h6⟩,h7⟩:=k2
 obtain⟨mb',me',mE',q1,q2⟩:=h.obj m _ hes
 rw[h1]at q1;simp only[cA,cW]at q1;obtain⟨rfl,rfl,rfl⟩:=q1
 obtain⟨⟨l',c',g1,g2,g3,g4⟩,g5⟩:=q2
 rw[h3]at g1;simp only[cA,Obj.map.injEq]at g1;obtain⟨rfl,rfl⟩:=g1
 have hget:(getObj b).run P w=.ok (.mapIter (some mb) c seen c) w:=by simp [getObj,Sem.run,h4]
 have hgetm:(getObj mb).run P w=.ok (.map l c) w:=run_getObj_map (P:=P) w mb l c h3
 have hall:(!seen.isEmpty&& !l.isEmpty&&l.all (·.born≥c))=false:=by
  cases hl:l.isEmpty with
  |true=>simp
  |false=>
   have hne:l.toList≠[]:=fun e=>by simp at e;subst e;simp at hl
   obtain⟨x,xs,hx⟩:=List.exists_cons_of_ne_nil hne
   have hxb:=g3 x (by rw[hx];simp)
   have:l.all (·.born≥c)=false:=by
    rw[←Array.all_toList,hx]
    simp only[dU,Bool.and_eq_false_iff]
    exact .inl (by simp;omega)
   rw[this];simp
 obtain⟨lf,hlf⟩:∃lf,lf=l.filter fun e=> !seen.contains e.born:=⟨_,rfl⟩
 have hlfl:lf.toList=l.toList.filter fun x=> !seen.contains x.born:=by subst hlf;simp
 have hold:lf.filter (·.born<c)=lf:=by
  apply dN.1
  simp only[Array.toList_filter]
  refine List.filter_eq_self.2 fun x hx=> ?_
  rw[hlfl,List.mem_filter]at hx
  simpa using g3 x hx.1
 have hnew:lf.filter (·.born≥c)=#[]:=by
  apply dN.1
  simp only[Array.toList_filter]
  refine List.filter_eq_nil_iff.2 fun x hx=> ?_
  rw[hlfl,List.mem_filter]at hx
  have:=g3 x hx.1
  simp;omega
 have hlen:=Ia h5
 rw[←hlfl]at h5 hlen
 by_cases hemp:lf=#[]
 ·left
  have hl0:left=[]:=by
   rw[hemp]at hlen
   simp at hlen
   exact fJ.1 hlen.symm
  refine⟨hl0,?_⟩
  have hc:((if lf.isEmpty then #[none]else #[])++(lf++#[]).map some:Array (Option MapEntry))=#[none]:=by rw[hemp];simp
  unfold Instr.next
  simp only[Sem.run_bind,hget,Result.andThen_ok,hgetm,hall,←hlf,hold,hnew,hc]
  simp [Question.forced]
 ·right
  have hne:lf.isEmpty=false:=by
   cases hx:lf.isEmpty with
   |false=>rfl
   |true=>exact absurd (by simpa using hx) hemp
  have hpos:0<lf.size:=by
   rcases Nat.eq_zero_or_pos lf.size with h0|h0
   ·exact absurd (Array.eq_empty_of_size_eq_zero h0) hemp
   ·exact h0
  have hc:((if lf.isEmpty then #[none]else #[])++(lf++#[]).map some:Array (Option MapEntry))=lf.map some:=by simp [hne]
  have hch:∃(j:Nat) (w1:World),j<lf.size∧w1.heap=w.heap∧w1.tape=w.tape∧w1.os=w.os∧w1.output=w.output∧(choose (.mapNext (lf.map some:Array (Option MapEntry)).size)).run P w=.ok j w1:=by
   rw[run_choose_drew]
   simp only[Question.forced,Array.size_map]
   split
   ·exact⟨0,w,hpos,rfl,rfl,rfl,rfl,rfl⟩
   ·exact⟨_,w.drew,by simp only[Question.cut];exact Nat.mod_lt _ hpos,rfl,rfl,rfl,rfl,rfl⟩
  obtain⟨j,w1,hj,e1,e2,e3,e4,hch⟩:=hch
  have hxj:lf[j]? =some lf[j]:=Array.getElem?_eq_getElem hj
  have hxl:lf.toList[j]? =some lf[j]:=by simpa using hxj
  obtain⟨⟨k,v⟩,p1,p2,p3⟩:=h5.get j _ hxl
  obtain⟨o',ho'⟩:∃o',o'=Obj.mapIter (some mb) c (seen.push lf[j].born) c:=⟨_,rfl⟩
  have hlt:=YU h4
  have h4':w1.heap[b]? =some (.mapIter (some mb) c seen c):=by rw[e1];exact h4
  obtain⟨w2,hw2⟩:∃w2,w2=({w1 with heap:=w1.heap.setIfInBounds b o'}:World):=⟨_,rfl⟩
  have hrun:(Instr.next (.pointer (some ⟨b,0,none⟩)) false ty).run P w=.ok (.tuple #[.bool true,lf[j].key,lf[j].val]) w2:=by
   unfold Instr.next
   simp only[Sem.run_bind,hget,Result.andThen_ok,hgetm,hall,←hlf,hold,hnew,hc,cB,if_false,Sem.run_pure,hch]
   have hcj:(lf.map some)[j]? =some (some lf[j]):=by simp [hj]
   simp only[hcj,Sem.run_bind]
   have hset:(setObj b (.mapIter (some mb) c (seen.push lf[j].born) c)).run P w1=.ok () w2:=by simp [setObj,Sem.run,h4',hw2,ho']
   rw[hset]
   rfl
  have hmb:mb≠b:=fun e=>by subst e;rw[h3]at h4;simp at h4
  have hheap:∀x,x≠b→w2.heap[x]? =w.heap[x]? :=fun x hx=>by subst hw2;rw[Hu _ _ _ _ hx,e1]
  have hat:w2.heap[b]? =some o':=by subst hw2;exact It w1 b o' (by rw[e1];exact hlt)
  have hkeep:∀x,x<w.heap.size→¬Z5 w b (.mit (some m) left last) x→w2.heap[x]? =w.heap[x]? :=fun x _ hn=>hheap x (by simpa[Z5]using hn)
  have hidm:m≠id:=fun e=>by subst e;rw[hid]at hes;simp at hes
  have hbm:(lf.toList.map (·.born)).Nodup:=by
   rw[hlfl]
   exact List.Nodup.sublist (List.Sublist.map _ List.filter_sublist) g4
  refine⟨j,k,v,_,_,w2,p1,hrun,p2,p3,h.turn hid hs hkeep (fun x i u hf hu=> ?_) ⟨⟨l,c,mb,me,mE,seen.push lf[j].born,h1,⟨es,by rw[Qa _ _ _ hidm];exact hes⟩,by rw[hheap mb hmb];exact h3,by rw[hat,ho'],?_,fun p hp=> ?_⟩,h7⟩ (fun x hf=>.inl (by simpa[Z5]using hf)) (fun⟨_,hh⟩=>by cases hh),
   .turn h hid hs (by subst hw2;simp [e1]) hkeep (fun x hf=>.inl (by simpa[Z5]using hf)) (by subst hw2;exact e2) (by subst hw2;exact e3) (by subst hw2;exact e4)⟩
  ·simp only[Z5]at hf;subst hf
   rw[h7 i]at hu;simp at hu
  ·have e0:(l.toList.filter fun x=> !(seen.push lf[j].born).contains x.born)=lf.toList.eraseIdx j:=by
    rw[←OV (·.born) lf.toList j lf[j] hbm hxl,hlfl,List.filter_filter]
    apply List.filter_congr
    intro x _
    rw[Array.contains_push]
    cases hsn:seen.contains x.born <;> simp [hsn,Bool.beq_comm,bne]
   rw[e0]
   exact h5.erase j
  ·simp only[cA]at hp;subst hp
   refine⟨lf[j],?_,by simp,p2,p3⟩
   have:lf[j]∈lf.toList:=by simp
   rw[hlfl,List.mem_filter]at this
   exact this.1
theorem RQ (h:Rel G κ A w){id m:Nat}{left:List (AV×AV)}{k v:AV}{u:Value}(hid:A id=some (.mit (some m) left (some (k,v))))(hu:Qc κ (.ptr id 0) u):∃uk uv,(Instr.entry u).run P w=.ok (.tuple #[uk,uv]) w∧Qc κ k uk∧Qc κ v uv:=by
 simp only[Qc]at hu
 obtain⟨b,e,E,hs,rfl⟩:=hu
 obtain⟨b',e',E',k1,k2⟩:=h.obj id _ hid
 rw[hs]at k1;simp only[cA,cW]at k1;obtain⟨rfl,rfl,rfl⟩:=k1
 obtain⟨⟨l,c,mb,me,mE,seen,h1,⟨es,hes⟩,h3,h4,h5,h6⟩,h7⟩:=k2
 obtain⟨mb',me',mE',q1,q2⟩:=h.obj m _ hes
 rw[h1]at q1;simp only[cA,cW]at q1;obtain⟨rfl,rfl,rfl⟩:=q1
 obtain⟨⟨l',c',g1,g2,g3,g4⟩,g5⟩:=q2
 rw[h3]at g1;simp only[cA,Obj.map.injEq]at g1;obtain⟨rfl,rfl⟩:=g1
 obtain⟨x,p1,p2,p3,p4⟩:=h6 (k,v) rfl
 have hget:(getObj b).run P w=.ok (.mapIter (some mb) c seen c) w:=by simp [getObj,Sem.run,h4]
 have hgetm:(getObj mb).run P w=.ok (.map l c) w:=run_getObj_map (P:=P) w mb l c h3
 have hfind:l.find? (fun y=>y.born==x.born)=some x:=by
  have key:∀L:List MapEntry,(L.map (·.born)).Nodup→x∈L→L.find? (fun y=>y.born==x.born)=some x:=by
   intro L
   induction L with
   |nil=>intro _ hx;simp at hx
   |cons y L ih=>
    intro hn hx
    simp only[cJ,List.nodup_cons,List.mem_map,not_exists,not_and]at hn
    rcases dT.1 hx with rfl|hx
    ·simp
    ·have:(y.born==x.born)=false:=by
      have:=hn.1 x hx
      simp only[beq_eq_false_iff_ne,ne_eq]
      exact fun e=>this e.symm
     rw[List.find?_cons,this]
     exact ih hn.2 hx
  rw[←Array.find?_toList]
  exact key _ g4 p1
 exact⟨x.key,x.val,by simp [Instr.entry,hget,hgetm,p2,hfind],p3,p4⟩
end
end Go.Ax
