/- The evaluator: abstract values, and code carried out on them. -/
import Derived.Calls
import Derived.Orders
import Derived.Below
import Derived.Laws.Sem
import Derived.Laws.World
set_option linter.all false
set_option maxHeartbeats 8000000
namespace Go.Ev
open _root_.Array renaming getElem?_eq_some_iff→BP
open _root_.List renaming getElem?_eq_some_iff→Bs,getElem?_append_left→Ba,getElem?_append_right→Br,getElem?_set_self→Be,getElem?_set_ne→Bn,cons_append→Bc,set_cons_zero→Bx,set_cons_succ→Bw,map_cons→BA,mem_cons→BI,getElem?_drop→BX,getElem?_take→BY
open _root_.Nat renaming le_refl→BL,lt_of_lt_of_le→BO
open Go Go.RowKit
inductive AV where
 |v (x:Value)
 |nan
 |sl (b:Bool) (n m:Nat) (cs:List AV)
 |ela (b:Bool) (cs:List AV)
 |agg (cs:List AV)
 |tup (cs:List AV)
 |ifc (t:TypeId) (x:AV)
 |own (i ver n:Nat)
 |ptr (i ver off:Nat)
 |clo (f:FuncId) (fs cs:List AV)
 |bad
 deriving Inhabited
structure ABlk where
 ver:Nat
 e:TypeId
 cells:List AV
 deriving Inhabited
def IsNaN(b:Nat):Prop:=(FloatKind.f64.decode b).isNaN=true
structure Cx where
 P:Program
 ok:Bool→Nat→Prop
 cur:Nat→Option (ABlk×Nat)
 w:World
def Cx.shut(c:Cx):Cx:={ c with cur:=fun _=>none }
mutual
def rel:AV→Cx→Value→Prop
 |.v x,_,u=>u=x
 |.nan,_,u=>∃ b,u=.float .f64 b∧IsNaN b
 |.sl b n m cs,c,u=>∃ r off cap,u=.slice (some ⟨r,off,none⟩) n cap∧n≤m∧m≤cap∧c.ok b r∧relAt cs c.shut r off
 |.ela b cs,c,u=>∃ r off,u=.pointer (some ⟨r,off,none⟩)∧c.ok b r∧relAt cs c.shut r off
 |.agg cs,c,u=>∃ us,u=.agg us∧relL cs c us.toList
 |.tup cs,c,u=>∃ us,u=.tuple us∧relL cs c us.toList
 |.ifc t x,c,u=>∃ y,u=.iface t y∧rel x c y
 |.own i ver n,c,u=>∃ k β,c.cur i=some (k,β)∧ver≤k.ver∧(∃ a n' cap',u=.slice a n' cap')∧(ver=k.ver→∃ cap,u=.slice (some ⟨β,0,none⟩) n cap∧n≤cap∧c.w.shape? β=some (k.e,cap * c.P.cellsOf k.e))
 |.ptr i ver off,c,u=>∃ k β,c.cur i=some (k,β)∧ver≤k.ver∧(∃ a,u=.pointer a)∧(ver=k.ver→u=.pointer (some ⟨β,off,none⟩))
 |.clo f fs cs,c,u=>∃ a b,u=.func (.func f) a b∧relL fs c a.toList∧relL cs c b.toList
 |.bad,_,_=>True
def relL:List AV→Cx→List Value→Prop
 |[],_,us=>us=[]
 |x::xs,c,us=>∃ u us',us=u::us'∧rel x c u∧relL xs c us'
def relAt:List AV→Cx→Nat→Nat→Prop
 |[],_,_,_=>True
 |x::xs,c,r,off=>(∃ u,c.w.cell? ⟨r,off,none⟩=some u∧rel x c u)∧relAt xs c r (off+1)
end
structure Cx.le(c c':Cx):Prop where
 P:c'.P=c.P
 ok:∀ b r,c.ok b r→c'.ok b r
 cell:∀ b r off u,c.ok b r→c.w.cell? ⟨r,off,none⟩=some u→c'.w.cell? ⟨r,off,none⟩=some u
 cur:∀ i k β,c.cur i=some (k,β)→∃ k' β',c'.cur i=some (k',β')∧k.ver≤k'.ver∧(k.ver=k'.ver→β'=β∧k'.e=k.e∧c'.w.shape? β=c.w.shape? β)
theorem Cx.le.shut{c c':Cx}(h:c.le c'):c.shut.le c'.shut:=⟨h.P,h.ok,h.cell,fun _ _ _ hk=>by cases hk⟩
mutual
theorem rel_mono{c c':Cx}(h:c.le c'):∀ (x:AV) (u:Value),rel x c u→rel x c' u
 |.v _,_,hr=>hr
 |.nan,_,hr=>hr
 |.sl b n m cs,u,hr=>by
  simp only[rel]at hr⊢;obtain⟨r,off,cap,h1,h2,h3,h4,h5⟩:=hr;exact⟨r,off,cap,h1,h2,h3,h.ok _ _ h4,relAt_mono h.shut cs r off ⟨b,h4⟩ h5⟩
 |.ela b cs,u,hr=>by
  simp only[rel]at hr⊢;obtain⟨r,off,h1,h4,h5⟩:=hr;exact⟨r,off,h1,h.ok _ _ h4,relAt_mono h.shut cs r off ⟨b,h4⟩ h5⟩
 |.agg cs,u,hr=>by
  simp only[rel]at hr⊢;obtain⟨us,h1,h2⟩:=hr;exact⟨us,h1,relL_mono h cs _ h2⟩
 |.tup cs,u,hr=>by
  simp only[rel]at hr⊢;obtain⟨us,h1,h2⟩:=hr;exact⟨us,h1,relL_mono h cs _ h2⟩
 |.ifc t x,u,hr=>by
  simp only[rel]at hr⊢;obtain⟨y,h1,h2⟩:=hr;exact⟨y,h1,rel_mono h x _ h2⟩
 |.own i ver n,u,hr=>by
  simp only[rel]at hr⊢;obtain⟨k,β,h1,h2,h0,h3⟩:=hr;obtain⟨k',β',h1',h2',h3'⟩:=h.cur i k β h1;refine⟨k',β',h1',by omega,h0,fun e=>?_⟩;obtain⟨rfl,he,hs⟩:=h3' (by omega);obtain⟨cap,hu,hn,hc⟩:=h3 (by omega);exact⟨cap,hu,hn,by rw[hs,hc,he,h.P]⟩
 |.ptr i ver off,u,hr=>by
  simp only[rel]at hr⊢;obtain⟨k,β,h1,h2,h0,h3⟩:=hr;obtain⟨k',β',h1',h2',h3'⟩:=h.cur i k β h1;refine⟨k',β',h1',by omega,h0,fun e=>?_⟩;obtain⟨rfl,he,hs⟩:=h3' (by omega);exact h3 (by omega)
 |.clo f fs cs,u,hr=>by
  simp only[rel]at hr⊢;obtain⟨a,b,h1,h2,h3⟩:=hr;exact⟨a,b,h1,relL_mono h fs _ h2,relL_mono h cs _ h3⟩
 |.bad,_,_=>by simp only[rel]
theorem relL_mono{c c':Cx}(h:c.le c'):∀ (xs:List AV) (us:List Value),relL xs c us→relL xs c' us
 |[],_,hr=>hr
 |x::xs,us,hr=>by
  simp only[relL]at hr⊢;obtain⟨u,us',h1,h2,h3⟩:=hr;exact⟨u,us',h1,rel_mono h x _ h2,relL_mono h xs _ h3⟩
theorem relAt_mono{c c':Cx}(h:c.le c'):∀ (xs:List AV) (r off:Nat),(∃ b,c.ok b r)→relAt xs c r off→relAt xs c' r off
 |[],_,_,_,_=>by simp only[relAt]
 |x::xs,r,off,hb,hr=>by
  simp only[relAt]at hr⊢;obtain⟨⟨u,h1,h2⟩,h3⟩:=hr;obtain⟨b,hb'⟩:=hb;exact⟨⟨u,h.cell b r off u hb' h1,rel_mono h x _ h2⟩,relAt_mono h xs r _ ⟨b,hb'⟩ h3⟩
end
theorem Cx.le_trans{a b c:Cx}(h:a.le b)(g:b.le c):a.le c:=
 ⟨g.P.trans h.P,fun b r x=>g.ok b r (h.ok b r x),fun b r off u hb hu=>g.cell b r off u (h.ok b r hb) (h.cell b r off u hb hu),fun _ _ _ hk=>by
  obtain⟨k1,β1,h1,h2,h3⟩:=h.cur _ _ _ hk;obtain⟨k2,β2,g1,g2,g3⟩:=g.cur _ k1 β1 h1;refine⟨k2,β2,g1,by omega,fun e=>?_⟩;obtain⟨rfl,e1,s1⟩:=h3 (by omega);obtain⟨rfl,e2,s2⟩:=g3 (by omega);exact⟨rfl,e2.trans e1,s2.trans s1⟩⟩
theorem relL_length{c:Cx}:∀ {xs:List AV} {us:List Value},relL xs c us→us.length=xs.length
 |[],us,h=>by simp only[relL]at h;subst h;rfl
 |x::xs,us,h=>by
  simp only[relL]at h;obtain⟨u,us',rfl,_,h3⟩:=h;simp[relL_length h3]
theorem relL_get{c:Cx}:∀ {xs:List AV} {us:List Value},relL xs c us→∀ (j:Nat) x,xs[j]?=some x→∃ u,us[j]?=some u∧rel x c u
 |[],_,_,j,x,h=>by simp at h
 |y::xs,us,h,j,x,hj=>by
  simp only[relL]at h;obtain⟨u,us',rfl,h2,h3⟩:=h;cases j with
  |zero=>simp at hj;subst hj;exact⟨u,rfl,h2⟩
  |succ j=>simpa using relL_get h3 j x (by simpa using hj)
theorem relL_of_get{c:Cx}:∀ {xs:List AV} {us:List Value},us.length=xs.length→(∀ (j:Nat) x,xs[j]?=some x→∃ u,us[j]?=some u∧rel x c u)→relL xs c us
 |[],us,hl,_=>by simp only[relL];exact List.length_eq_zero_iff.1 hl
 |x::xs,[],hl,_=>by simp at hl
 |x::xs,u::us,hl,h=>by
  simp only[relL];refine⟨u,us,rfl,?_,relL_of_get (by simpa using hl) fun j y hy=>by simpa using h (j+1) y (by simpa using hy)⟩;obtain⟨u',hu',hr⟩:=h 0 x rfl;simp at hu';subst hu';exact hr
theorem relL_append{c:Cx}{xs ys:List AV}{us vs:List Value}(h:relL xs c us)(g:relL ys c vs):relL (xs++ys) c (us++vs):=by
 induction xs generalizing us with
 |nil=>simp only[relL]at h;subst h;exact g
 |cons x xs ih=>
  simp only[relL]at h;obtain⟨u,us',rfl,h2,h3⟩:=h;simp only[Bc,relL];exact⟨u,us'++vs,rfl,h2,ih h3⟩
theorem relL_drop{c:Cx}{xs:List AV}{us:List Value}(h:relL xs c us)(n:Nat):relL (xs.drop n) c (us.drop n):=by
 induction n generalizing xs us with
 |zero=>simpa using h
 |succ n ih=>
  cases xs with
  |nil=>simp only[relL]at h;subst h;simp[relL]
  |cons x xs=>simp only[relL]at h;obtain⟨u,us',rfl,_,h3⟩:=h;simpa using ih h3
theorem relL_take{c:Cx}{xs:List AV}{us:List Value}(h:relL xs c us)(n:Nat):relL (xs.take n) c (us.take n):=by
 induction n generalizing xs us with
 |zero=>simp[relL]
 |succ n ih=>
  cases xs with
  |nil=>simp only[relL]at h;subst h;simp[relL]
  |cons x xs=>simp only[relL]at h;obtain⟨u,us',rfl,h2,h3⟩:=h;simp only[List.take_succ_cons,relL];exact⟨u,_,rfl,h2,ih h3⟩
theorem relAt_get{c:Cx}:∀ {xs:List AV} {r off:Nat},relAt xs c r off→∀ (j:Nat) x,xs[j]?=some x→∃ u,c.w.cell? ⟨r,off+j,none⟩=some u∧rel x c u
 |[],_,_,_,j,x,h=>by simp at h
 |y::xs,r,off,h,j,x,hj=>by
  simp only[relAt]at h;obtain⟨⟨u,h1,h2⟩,h3⟩:=h;cases j with
  |zero=>simp at hj;subst hj;exact⟨u,h1,h2⟩
  |succ j=>
   obtain⟨u',hu',hr⟩:=relAt_get h3 j x (by simpa using hj);exact⟨u',by rw[show off+(j+1)=off+1+j by omega];exact hu',hr⟩
theorem relAt_of_get{c:Cx}:∀ {xs:List AV} {r off:Nat},(∀ (j:Nat) x,xs[j]?=some x→∃ u,c.w.cell? ⟨r,off+j,none⟩=some u∧rel x c u)→relAt xs c r off
 |[],_,_,_=>by simp only[relAt]
 |x::xs,r,off,h=>by
  simp only[relAt];refine⟨h 0 x rfl,relAt_of_get fun j y hy=>?_⟩;obtain⟨u,hu,hr⟩:=h (j+1) y (by simpa using hy);exact⟨u,by rw[show off+1+j=off+(j+1)by omega];exact hu,hr⟩
theorem relAt_drop{c:Cx}{xs:List AV}{r off:Nat}(h:relAt xs c r off)(n:Nat):relAt (xs.drop n) c r (off+n):=
 relAt_of_get fun j x hj=>by
  obtain⟨u,hu,hr⟩:=relAt_get h (n+j) x (by rw[BX]at hj;exact hj);exact⟨u,by rw[Nat.add_assoc];exact hu,hr⟩
theorem relAt_take{c:Cx}{xs:List AV}{r off:Nat}(h:relAt xs c r off)(n:Nat):relAt (xs.take n) c r off:=
 relAt_of_get fun j x hj=>by
  refine relAt_get h j x ?_;rw[BY]at hj
  split at hj
  ·exact hj
  ·cases hj
def fieldT(P:Program)(t f:Nat):Option (Nat×TypeId):=
 match P.underlying t with
 |some (.struct fs)=>(fs[f]?).map fun x=>(x.offset,x.type)
 |_=>none
def elemT(P:Program)(t:TypeId):Option TypeId:=
 match P.underlying t with
 |some (.slice e)=>some e
 |_=>none
def arrT(P:Program)(t:TypeId):Option (Nat×TypeId):=
 match P.underlying t with
 |some (.array n e)=>some (n,e)
 |_=>none
def aggT(P:Program)(t:TypeId):Option Bool:=
 (P.underlying t).map fun|.struct _|.array _ _=>true|_=>false
def intT(P:Program)(t:TypeId):Option IntKind:=
 match P.underlying t with
 |some (.int k)=>some k
 |_=>none
def strT(P:Program)(t:TypeId):Bool:=match P.underlying t with|some .string=>true|_=>false
def fltT(P:Program)(t:TypeId):Option FloatKind:=
 match P.underlying t with
 |some (.float k)=>some k
 |_=>none
def ifcT(P:Program)(t:TypeId):Option Bool:=(P.underlying t).map fun|.interface _=>true|_=>false
def cmpT(P:Program)(t:TypeId):Option Bool:=(P.info? t).map (·.comparable)
def sizeT(P:Program)(t:TypeId):Option Nat:=(P.info? t).map (·.size)
def bytesT(P:Program)(t:TypeId):Option Nat:=(P.info? t).map (·.bytes)
def zeroT(P:Program)(t:TypeId):Option Value:=(P.info? t).bind (·.zero)
def placesT(P:Program)(t:TypeId):Option (List (Nat×Nat)):=
 match P.underlying t with
 |some (.struct fs)=>fs.toList.mapM fun f=>(P.info? f.type).map fun i=>(f.offset,i.size)
 |_=>none
structure Slots where
 n:Nat
 l:List (Nat×AV)
 g:List (Nat×AV)
structure St where
 s:Slots
 h:List ABlk
def look:List (Nat×AV)→Nat→AV
 |[],_=>.bad
 |(d,r)::l,t=>if d=t then r else look l t
def ofV:Value→AV
 |.agg cs=>.agg (cs.toList.map .v)
 |x=>.v x
def get(s:Slots):Operand→AV
 |.tmp t=>look s.l t
 |.const x=>ofV x
 |.func f=>.v (.func (.func f) #[] #[])
 |.global k=>look s.g k
def putS(s:Slots):Option Tmp→AV→Slots
 |none,_=>s
 |some d,r=>if d<s.n then⟨s.n,(d,r)::s.l,s.g⟩else s
def oneA:AV→Bool
 |.v x=>x.oneCell'
 |.agg _|.tup _|.bad=>false
 |_=>true
def flat:AV→Option (List AV)
 |.agg cs=>if cs.all oneA then some cs else none
 |x=>if oneA x then some [x]else none
def setMany:List AV→Nat→List AV→List AV
 |l,_,[]=>l
 |l,i,x::xs=>setMany (l.set i x) (i+1) xs
def zeroCells(z:Value):List AV:=match z with|.agg cs=>cs.toList.map .v|x=>[.v x]
def bytesOfA:List AV→Option (List UInt8)
 |[]=>some []
 |.v (.int .u8 k)::l=>(bytesOfA l).map (UInt8.ofNat k.toNat::·)
 |_::_=>none
def byteC(b:UInt8):AV:=.v (.int .u8 b.toNat)
def intA(op:BinOp)(k:IntKind)(a b:Int)(K:AV→Prop):Prop:=
 match op with
 |.add=>K (.v (.int k (k.wrap (a+b))))
 |.sub=>K (.v (.int k (k.wrap (a-b))))
 |.mul=>K (.v (.int k (k.wrap (a * b))))
 |.quo=>b≠0∧K (.v (.int k (k.wrap (a.tdiv b))))
 |.rem=>b≠0∧K (.v (.int k (a.tmod b)))
 |.and=>K (.v (.int k (k.wrap (BitVec.ofInt k.bits a &&& BitVec.ofInt k.bits b).toNat)))
 |.or=>K (.v (.int k (k.wrap (BitVec.ofInt k.bits a ||| BitVec.ofInt k.bits b).toNat)))
 |.xor=>K (.v (.int k (k.wrap (BitVec.ofInt k.bits a ^^^ BitVec.ofInt k.bits b).toNat)))
 |.andNot=>K (.v (.int k (k.wrap (BitVec.ofInt k.bits a &&& ~~~BitVec.ofInt k.bits b).toNat)))
 |.eql=>K (.v (.bool (a==b)))
 |.neq=>K (.v (.bool (a != b)))
 |.lss=>K (.v (.bool (decide (a<b))))
 |.leq=>K (.v (.bool (decide (a≤b))))
 |.gtr=>K (.v (.bool (decide (b<a))))
 |.geq=>K (.v (.bool (decide (b≤a))))
 |_=>False
def shiftA(op:BinOp)(k:IntKind)(a b:Int)(K:AV→Prop):Prop:=
 match op with
 |.shl=>0≤b∧K (.v (.int k (k.wrap (a * 2^min b.toNat k.bits))))
 |.shr=>0≤b∧K (.v (.int k (a.fdiv (2^min b.toNat k.bits))))
 |_=>False
def fltRes:Option Nat→AV
 |some r=>.v (.float .f64 r)
 |none=>.nan
def fltA(op:BinOp)(a b:Nat)(K:AV→Prop):Prop:=
 match op with
 |.add=>K (fltRes (FloatKind.f64.format.add a b))
 |.sub=>K (fltRes (FloatKind.f64.format.sub a b))
 |.mul=>K (fltRes (FloatKind.f64.format.mul a b))
 |.quo=>K (fltRes (FloatKind.f64.format.div a b))
 |.eql=>K (.v (.bool (FloatKind.f64.format.order a b==some .eq)))
 |.neq=>K (.v (.bool (FloatKind.f64.format.order a b != some .eq)))
 |.lss=>K (.v (.bool (FloatKind.f64.format.order a b==some .lt)))
 |.leq=>K (.v (.bool (FloatKind.f64.format.order a b==some .lt || FloatKind.f64.format.order a b==some .eq)))
 |.gtr=>K (.v (.bool (FloatKind.f64.format.order a b==some .gt)))
 |.geq=>K (.v (.bool (FloatKind.f64.format.order a b==some .gt || FloatKind.f64.format.order a b==some .eq)))
 |_=>False
def nanA(op:BinOp)(K:AV→Prop):Prop:=
 match op with
 |.add|.sub|.mul|.quo=>K .nan
 |.neq=>K (.v (.bool true))
 |.eql|.lss|.leq|.gtr|.geq=>K (.v (.bool false))
 |_=>False
def strA(op:BinOp)(x y:ByteArray)(K:AV→Prop):Prop:=
 match op with
 |.add=>x.data.toList.length+y.data.toList.length≤9223372036854775807∧K (.v (.string ⟨(x.data.toList++y.data.toList).toArray⟩))
 |.eql=>K (.v (.bool (x.data.toList==y.data.toList)))
 |.neq=>K (.v (.bool (!(x.data.toList==y.data.toList))))
 |.lss=>K (.v (.bool (Op.bytesLess x.data.toList y.data.toList)))
 |.leq=>K (.v (.bool (Op.bytesLess x.data.toList y.data.toList || x.data.toList==y.data.toList)))
 |.gtr=>K (.v (.bool !(Op.bytesLess x.data.toList y.data.toList || x.data.toList==y.data.toList)))
 |.geq=>K (.v (.bool !Op.bytesLess x.data.toList y.data.toList))
 |_=>False
def boolA(op:BinOp)(a b:Bool)(K:AV→Prop):Prop:=
 match op with
 |.eql=>K (.v (.bool (a==b)))
 |.neq=>K (.v (.bool (!(a==b))))
 |_=>False
def nilA(op:BinOp)(same:Bool)(K:AV→Prop):Prop:=
 match op with
 |.eql=>K (.v (.bool same))
 |.neq=>K (.v (.bool (!same)))
 |_=>False
def cplEq(a b c d:Nat):Bool:=(FloatKind.f64.format.order a c==some .eq)&&(FloatKind.f64.format.order b d==some .eq)
def cplA(op:BinOp)(a b c d:Nat)(K:AV→Prop):Prop:=
 match op with
 |.eql=>K (.v (.bool (cplEq a b c d)))
 |.neq=>K (.v (.bool (!(cplEq a b c d))))
 |_=>False
def isConst:Operand→Bool
 |.const _=>true
 |_=>false
def binA(P:Program)(op:BinOp)(t:TypeId)(ox oy:Operand)(x y:AV)(K:AV→Prop):Prop:=
 match x,y with
 |.v (.int k a),.v (.int k' b)=>match op with
  |.shl|.shr=>shiftA op k a b K
  |_=>k=k'∧intA op k a b K
 |.v (.float .f64 a),.v (.float .f64 b)=>fltA op a b K
 |.nan,.v (.float .f64 _)|.v (.float .f64 _),.nan|.nan,.nan=>nanA op K
 |.v (.string a),.v (.string b)=>strA op a b K
 |.v (.bool a),.v (.bool b)=>P.underlying t=some .bool∧boolA op a b K
 |.v .nilIface,.v .nilIface=>(isConst ox || isConst oy)=true∧ifcT P t=some true∧nilA op true K
 |.ifc _ _,.v .nilIface|.v .nilIface,.ifc _ _=>ifcT P t=some true∧nilA op false K
 |.ifc tx (.v (.int k a)),.ifc ty (.v (.int k' b))=>ifcT P t=some true∧((tx≠ty∧nilA op false K)∨(tx=ty∧k=k'∧intT P tx=some k∧cmpT P tx=some true∧nilA op (a==b) K))
 |.v (.complex .f64 a b),.v (.complex .f64 c d)=>cplA op a b c d K
 |_,_=>False
def unA(op:UnOp)(x:AV)(K:AV→Prop):Prop:=
 match op,x with
 |.not,.v (.bool b)=>K (.v (.bool (!b)))
 |.neg,.v (.int k n)=>K (.v (.int k (k.wrap (0-n))))
 |.neg,.v (.float .f64 b)=>K (.v (.float .f64 (Op.negFloat .f64 b)))
 |_,_=>False
def takeA(P:Program)(t:TypeId)(cs:List AV)(K:AV→Prop):Prop:=
 match aggT P t with
 |some true=>∃ n,sizeT P t=some n∧n≤cs.length∧K (.agg (cs.take n))
 |some false=>∃ x,cs[0]?=some x∧K x
 |none=>False
def loadA(P:Program)(t:TypeId)(s:St)(a:AV)(K:AV→Prop):Prop:=
 match a with
 |.ptr i ver off=>∃ k,s.h[i]?=some k∧ver=k.ver∧takeA P t (k.cells.drop off) K
 |.ela _ cs=>takeA P t cs K
 |_=>False
def storeA(P:Program)(t:TypeId)(s:St)(a x:AV)(K:St→Prop):Prop:=
 match a with
 |.ptr i ver off=>∃ k cs,s.h[i]?=some k∧ver=k.ver∧flat x=some cs∧sizeT P t=some cs.length∧off+cs.length≤k.cells.length∧
   K { s with h:=s.h.set i { k with cells:=setMany k.cells off cs } }
 |_=>False
def liveA(s:St)(i ver:Nat):Prop:=∃ k,s.h[i]?=some k∧ver=k.ver
def fieldAddrA(P:Program)(t:TypeId)(s:St)(a:AV)(f:Nat)(K:AV→Prop):Prop:=
 ∃ o ft n,fieldT P t f=some (o,ft)∧sizeT P ft=some n∧n≠0∧
  match a with
  |.ptr i ver off=>liveA s i ver∧K (.ptr i ver (off+o))
  |.ela b cs=>K (.ela b (cs.drop o))
  |_=>False
def indexAddrA(P:Program)(t:TypeId)(s:St)(x ix:AV)(K:AV→Prop):Prop:=
 match ix with
 |.v (.int _ i)=>
  match x with
  |.sl b n _ cs=>∃ e sz,elemT P t=some e∧sizeT P e=some sz∧0≤i∧i<n∧K (.ela b (cs.drop (i.toNat * sz)))
  |.own j ver n=>∃ k e sz,s.h[j]?=some k∧ver=k.ver∧elemT P t=some e∧sizeT P e=some sz∧0≤i∧i<n∧K (.ptr j ver (i.toNat * sz))
  |.ptr j ver off=>liveA s j ver∧∃ n e sz,arrT P t=some (n,e)∧sizeT P e=some sz∧0≤i∧i<n∧K (.ptr j ver (off+i.toNat * sz))
  |_=>False
 |_=>False
def sAt(s:ByteArray)(i:Nat):Int:=((s.data.toList[i]?).getD 0).toNat
def indexA(P:Program)(t:TypeId)(x ix:AV)(K:AV→Prop):Prop:=
 match ix with
 |.v (.int _ i)=>
  match x with
  |.v (.string s)=>strT P t=true∧0≤i∧i<(s.data.toList.length:Int)∧K (.v (.int .u8 (sAt s i.toNat)))
  |.agg cs=>∃ n e sz,arrT P t=some (n,e)∧sizeT P e=some sz∧0≤i∧i<n∧takeA P e (cs.drop (i.toNat * sz)) K
  |_=>False
 |_=>False
def boundA(x:Option AV)(d:Nat)(K:Nat→Prop):Prop:=
 match x with
 |none=>K d
 |some (.v (.int _ i))=>0≤i∧K i.toNat
 |_=>False
def sliceA(P:Program)(t:TypeId)(s:St)(x:AV)(lo hi mx:Option AV)(K:AV→Prop):Prop:=
 mx=none∧
 match x with
 |.v (.string b)=>strT P t=true∧boundA hi b.data.toList.length fun h=>h≤b.data.toList.length∧boundA lo 0 fun l=>l≤h∧K (.v (.string ⟨((b.data.toList.take h).drop l).toArray⟩))
 |.sl b n m cs=>∃ e sz,elemT P t=some e∧sizeT P e=some sz∧cs.length≤m * sz∧boundA hi n fun h=>h≤m∧boundA lo 0 fun l=>l≤h∧K (.sl b (h-l) (m-l) (cs.drop (l * sz)))
 |.own i ver n=>∃ e k sz,elemT P t=some e∧sizeT P e=some sz∧s.h[i]?=some k∧ver=k.ver∧boundA hi n fun h=>h≤n∧boundA lo 0 fun l=>l≤h∧l=0∧K (.own i ver h)
 |.v (.slice none 0 0)=>∃ e sz,elemT P t=some e∧sizeT P e=some sz∧boundA hi 0 fun h=>h≤0∧boundA lo 0 fun l=>l≤h∧K (.v (.slice none 0 0))
 |_=>False
def srcA(s:St)(sz:Nat)(x:AV)(K:Nat→List AV→Prop):Prop:=
 match x with
 |.sl _ n _ cs=>n * sz≤cs.length∧K n (cs.take (n * sz))
 |.own i ver n=>∃ k,s.h[i]?=some k∧ver=k.ver∧n * sz≤k.cells.length∧K n (k.cells.take (n * sz))
 |.v (.slice none 0 0)=>K 0 []
 |.v (.string b)=>sz=1∧K b.data.toList.length (b.data.toList.map byteC)
 |_=>False
def ontoA(s:St)(e sz by' n:Nat)(new:List AV)(K:AV→St→Prop):AV→Prop
 |.v (.slice none 0 0)=>(n=0∧K (.v (.slice none 0 0)) s)∨(0<n∧n * by'≤140737488355328∧K (.own s.h.length 0 n) { s with h:=s.h++[⟨0,e,new⟩] })
 |.own i ver m=>∃ k,s.h[i]?=some k∧ver=k.ver∧k.e=e∧m * sz≤k.cells.length∧
   ((n=0∧K (.own i ver m) s)∨((m+n) * by'≤140737488355328∧K (.own i (ver+1) (m+n)) { s with h:=s.h.set i ⟨ver+1,e,k.cells.take (m * sz)++new⟩ }))
 |_=>False
def appendA(P:Program)(ts:Array TypeId)(s:St)(x y:AV)(K:AV→St→Prop):Prop:=
 ∃ t t2 e sz by' z,zeroT P e=some z∧(zeroCells z).length=sz∧ts[0]?=some t∧ts[1]?=some t2∧intT P t2=none∧(P.underlying t2).isSome=true∧elemT P t=some e∧sizeT P e=some sz∧bytesT P e=some by'∧0<sz∧0<by'∧
  srcA s sz y fun n new=>new.all oneA=true∧ontoA s e sz by' n new K x
def fillA(place:Nat→Option (Nat×Nat))(get:Operand→AV):List (Nat×Operand)→List AV→(List AV→Prop)→Prop
 |[],l,K=>K l
 |(i,x)::r,l,K=>∃ o n cs,place i=some (o,n)∧flat (get x)=some cs∧cs.length=n∧o+n≤l.length∧fillA place get r (setMany l o cs) K
def buildA(P:Program)(t:TypeId)(parts:Array (Nat×Operand))(get:Operand→AV)(K:AV→Prop):Prop:=
 ∃ z,zeroT P t=some z∧
  ((∃ pl,placesT P t=some pl∧fillA (pl[·]?) get parts.toList (zeroCells z) fun l=>K (.agg l))∨
   (∃ n e sz,arrT P t=some (n,e)∧sizeT P e=some sz∧fillA (fun i=>some (i * sz,sz)) get parts.toList (zeroCells z) fun l=>K (.agg l)))
def rowsA(z:Value)(n:Nat):List AV:=(List.replicate n (zeroCells z)).flatten
def buildSliceA(P:Program)(t:TypeId)(len:Nat)(parts:Array (Nat×Operand))(get:Operand→AV)(s:St)(K:AV→St→Prop):Prop:=
 ∃ e sz z,elemT P t=some e∧sizeT P e=some sz∧zeroT P e=some z∧(zeroCells z).length=sz∧0<sz∧len * sz≤16777216∧
  fillA (fun i=>some (i * sz,sz)) get parts.toList (rowsA z len) fun l=>K (.own s.h.length 0 len) { s with h:=s.h++[⟨0,e,l⟩] }
def makeSliceA(P:Program)(t:TypeId)(len cap:AV)(s:St)(K:AV→St→Prop):Prop:=
 match len,cap with
 |.v (.int _ n),.v (.int _ c)=>∃ e sz by' z,elemT P t=some e∧sizeT P e=some sz∧bytesT P e=some by'∧zeroT P e=some z∧(zeroCells z).length=sz∧0<sz∧
   0≤n∧n≤c∧c<9223372036854775808∧c * by'≤140737488355328∧K (.own s.h.length 0 n.toNat) { s with h:=s.h++[⟨0,e,rowsA z c.toNat⟩] }
 |_,_=>False
def f2i(b:Nat)(k:IntKind):Option Int:=match (FloatKind.f64.decode b).toInt .zero with
 |some n=>if k.min≤n∧n≤k.max then some n else none
 |none=>none
def convertA(P:Program)(src dst:TypeId)(x:AV)(s:St)(K:AV→St→Prop):Prop:=
 match x with
 |.v (.int _ n)=>match P.underlying dst with
  |some (.int k)=>(P.underlying src).isSome=true∧K (.v (.int k (k.wrap n))) s
  |some (.float .f64)=>(P.underlying src).isSome=true∧K (.v (.float .f64 (FloatKind.f64.nearest n))) s
  |some .string=>(P.underlying src).isSome=true∧K (.v (.string (Utf8.encode n))) s
  |_=>False
 |.v (.float .f64 b)=>∃ k n,intT P dst=some k∧(P.underlying src).isSome=true∧f2i b k=some n∧K (.v (.int k n)) s
 |.v (.string b)=>match P.underlying dst with
  |some .string=>(P.underlying src).isSome=true∧K x s
  |some (.slice e)=>strT P src=true∧intT P e=some .u8∧sizeT P e=some 1∧b.data.toList.length<4611686018427387904∧K (.own s.h.length 0 b.data.toList.length) { s with h:=s.h++[⟨0,e,b.data.toList.map byteC⟩] }
  |_=>False
 |.sl _ n _ cs=>strT P dst=true∧(elemT P src).bind (intT P)=some .u8∧n≤cs.length∧∃ l,bytesOfA (cs.take n)=some l∧K (.v (.string ⟨l.toArray⟩)) s
 |.own i ver n=>∃ k,s.h[i]?=some k∧ver=k.ver∧strT P dst=true∧(elemT P src).bind (intT P)=some .u8∧n≤k.cells.length∧∃ l,bytesOfA (k.cells.take n)=some l∧K (.v (.string ⟨l.toArray⟩)) s
 |.v (.slice none 0 0)=>strT P dst=true∧(elemT P src).bind (intT P)=some .u8∧K (.v (.string ⟨#[]⟩)) s
 |_=>False
def lenA(P:Program)(ts:Array TypeId)(s:St)(x:AV)(K:AV→Prop):Prop:=
 ∃ t,ts[0]?=some t∧
  match x with
  |.v (.string b)=>strT P t=true∧K (.v (.int .i64 b.data.toList.length))
  |.v (.slice none 0 0)=>(elemT P t).isSome=true∧K (.v (.int .i64 0))
  |.sl _ n _ _=>(elemT P t).isSome=true∧K (.v (.int .i64 n))
  |.own i ver n=>(elemT P t).isSome=true∧liveA s i ver∧K (.v (.int .i64 n))
  |_=>False
mutual
def fz(P:Program)(H:List ABlk)(b0:Bool):AV→AV→Prop
 |.v a,x=>x=.v a
 |.nan,x=>x=.nan
 |.bad,_=>True
 |.ela _ _,_=>False
 |.own _ _ _,_=>False
 |.ptr _ _ _,_=>False
 |.agg ys,x=>∃ xs,x=.agg xs∧fzL P H b0 ys xs
 |.tup ys,x=>∃ xs,x=.tup xs∧fzL P H b0 ys xs
 |.ifc t y,x=>∃ x',x=.ifc t x'∧fz P H b0 y x'
 |.clo f ys zs,x=>∃ xs xs',x=.clo f xs xs'∧fzL P H b0 ys xs∧fzL P H b0 zs xs'
 |.sl b n m ys,x=>x=.sl b n m ys∨(b=b0∧∃ i k xs,x=.own i k.ver n∧H[i]?=some k∧n≤m∧(m=n∨(0<P.cellsOf k.e∧m * P.cellsOf k.e≤k.cells.length))∧xs<+:k.cells∧fzL P H b0 ys xs)
def fzL(P:Program)(H:List ABlk)(b0:Bool):List AV→List AV→Prop
 |[],xs=>xs=[]
 |y::ys,xs=>∃ x xs',xs=x::xs'∧fz P H b0 y x∧fzL P H b0 ys xs'
end
mutual
def noBor:AV→Bool
 |.sl b _ _ cs=> !b&&noBorL cs
 |.ela b cs=> !b&&noBorL cs
 |.agg cs=>noBorL cs
 |.tup cs=>noBorL cs
 |.ifc _ x=>noBor x
 |.clo _ fs cs=>noBorL fs&&noBorL cs
 |_=>true
def noBorL:List AV→Bool
 |[]=>true
 |x::xs=>noBor x&&noBorL xs
end
mutual
def treeA:AV→Bool
 |.own _ _ _=>false
 |.ptr _ _ _=>false
 |.agg cs=>treeL cs
 |.tup cs=>treeL cs
 |.ifc _ x=>treeA x
 |.clo _ fs cs=>treeL fs&&treeL cs
 |_=>true
def treeL:List AV→Bool
 |[]=>true
 |x::xs=>treeA x&&treeL xs
end
def cx0(P:Program)(G B:Nat→Prop)(w:World):Cx:=
 {P,w,ok:=fun b r=>r<w.heap.size∧(if b then B r else ¬G r),cur:=fun _=>none }
def Ev(P:Program)(γ:List (Nat×AV))(f:FuncId)(args:List AV)(res:AV):Prop:=
 ∀ (G B:Nat→Prop) (w:World) (vs:Array Value),(∀ r,G r→r<w.heap.size)→(∀ k,treeA (look γ k)=true∧rel (look γ k) (cx0 P G B w) (.pointer (some ⟨k,0,none⟩)))→relL args (cx0 P G B w) vs.toList→
  Calls P f vs w fun e w'=>∃ u,e=.returned u∧rel res (cx0 P G B w') u∧Below w.heap.size w w'
def callA(P:Program)(s:St)(g:FuncId)(xs:List AV)(K:AV→Prop):Prop:=
 ∃ ys r,((ys=xs∧treeL xs=true)∨(fzL P s.h true ys xs∧noBor r=true))∧Ev P s.s.g g ys r∧K r
def partS(im:Bool):AV→Option AV
 |.v (.complex .f64 a b)=>some (.v (.float .f64 (if im then b else a)))
 |_=>none
def maxS:AV→AV→Option AV
 |.v (.int k a),.v (.int _ b)=>some (.v (.int k (if b>a then b else a)))
 |_,_=>none
def compS:AV→AV→Option AV
 |.v (.float .f64 a),.v (.float .f64 b)=>some (.v (.complex .f64 a b))
 |_,_=>none
def aop(P:Program)(o:Oper)(s:St)(K:St→Prop):Prop:=
 let put (r:AV):Prop:=K { s with s:=putS s.s o.dst r }
 let putH (r:AV) (s':St):Prop:=K { s' with s:=putS s'.s o.dst r }
 match o.op with
 |.move x|.assign x=>put (get s.s x)
 |.pick c a b=>match get s.s c with
  |.v (.bool z)=>(z=true→put (get s.s a))∧(z=false→put (get s.s b))
  |_=>False
 |.alloc t=>∃ z,zeroT P t=some z∧K { s:=putS s.s o.dst (.ptr s.h.length 0 0),h:=s.h++[⟨0,t,zeroCells z⟩] }
 |.box t x=>∃ cs,flat (get s.s x)=some cs∧K { s:=putS s.s o.dst (.ptr s.h.length 0 0),h:=s.h++[⟨0,t,cs⟩] }
 |.build t ps=>buildA P t ps (get s.s) put
 |.buildSlice t n ps=>buildSliceA P t n ps (get s.s) s putH
 |.load t a=>loadA P t s (get s.s a) put
 |.store t a x=>storeA P t s (get s.s a) (get s.s x) fun s'=>K { s' with s:=putS s'.s o.dst .bad }
 |.nilCheck x=>match get s.s x with
  |.ptr i ver off=>liveA s i ver∧put (.ptr i ver off)
  |.ela b cs=>put (.ela b cs)
  |_=>False
 |.binOp op t x y _=>binA P op t x y (get s.s x) (get s.s y) put
 |.unOp op _ x=>unA op (get s.s x) put
 |.convert a b x=>convertA P a b (get s.s x) s putH
 |.makeInterface t x=>ifcT P t=some false∧put (.ifc t (get s.s x))
 |.makeSlice t l c=>makeSliceA P t (get s.s l) (get s.s c) s putH
 |.slice t x lo hi mx=>sliceA P t s (get s.s x) (lo.map (get s.s)) (hi.map (get s.s)) (mx.map (get s.s)) put
 |.fieldAddr t x f=>fieldAddrA P t s (get s.s x) f put
 |.field t x f=>match get s.s x with
  |.agg cs=>∃ o ft,fieldT P t f=some (o,ft)∧takeA P ft (cs.drop o) put
  |_=>False
 |.indexAddr t x i=>indexAddrA P t s (get s.s x) (get s.s i) put
 |.index t x i=>indexA P t (get s.s x) (get s.s i) put
 |.extract t i=>match get s.s t with
  |.tup cs=>∃ x,cs[i]?=some x∧put x
  |_=>False
 |.call c=>match c.callee with
  |.builtin .len=>∃ x,c.args[0]?=some x∧lenA P c.argTypes s (get s.s x) put
  |.builtin .append=>∃ x y,c.args = #[x,y]∧appendA P c.argTypes s (get s.s x) (get s.s y) putH
  |.builtin .real=>∃ x r,c.args = #[x]∧partS false (get s.s x)=some r∧put r
  |.builtin .imag=>∃ x r,c.args = #[x]∧partS true (get s.s x)=some r∧put r
  |.builtin .complex=>∃ x y r,c.args = #[x,y]∧compS (get s.s x) (get s.s y)=some r∧put r
  |.builtin .max=>∃ x y r,c.args = #[x,y]∧maxS (get s.s x) (get s.s y)=some r∧put r
  |.value (.func g)=>(∃ fn,P.funcs[g]?=some fn∧fn.body.isSome=true∧(fn.name == "runtime.NumGoroutine")=false)∧callA P s g (c.args.toList.map (get s.s)) put
  |_=>False
 |_=>False
def guardA(ops:Array Oper)(s:St)(j:Nat):AV:=
 match (ops[j]?).bind (·.dst)with
 |some t=>look s.s.l t
 |none=>.bad
abbrev Post:=Exit→St→Prop
def thenA(K:St→Prop)(Q:Post):Post
 |.normal,s=>K s
 |e,s=>Q e s
def inBlockA(id:Nat)(Q:Post):Post
 |.exit j,s=>if j=id then Q .normal s else Q (.exit j) s
 |e,s=>Q e s
def allIn(l:List (Nat×AV)):List (Nat×AV)→Prop
 |[]=>True
 |(d,r)::l2=>look l d=r∧allIn l l2
mutual
def okRef(n:Nat):AV→Bool
 |.own i _ _=>decide (i<n)
 |.ptr i _ _=>decide (i<n)
 |.agg cs=>okRefL n cs
 |.tup cs=>okRefL n cs
 |.ifc _ x=>okRef n x
 |.clo _ fs cs=>okRefL n fs&&okRefL n cs
 |_=>true
def okRefL(n:Nat):List AV→Bool
 |[]=>true
 |x::xs=>okRef n x&&okRefL n xs
end
def okRefB(n:Nat):List ABlk→Bool
 |[]=>true
 |k::ks=>okRefL n k.cells&&okRefB n ks
def St.weak(s s2:St):Prop:=
 s2.s.n=s.s.n∧s2.s.g=s.s.g∧allIn s.s.l s2.s.l∧(s2.h=s.h∨(s2.h=s.h.take s2.h.length∧okRefL s2.h.length (s2.s.l.map (·.2))=true∧okRefB s2.h.length s2.h=true))
def resA(P:Program):List ResultVar→St→(List AV→Prop)→Prop
 |[],_,K=>K []
 |.tmp t::rs,s,K=>resA P rs s fun xs=>K (look s.s.l t::xs)
 |.cell p t::rs,s,K=>loadA P t s (look s.s.l p) fun x=>resA P rs s fun xs=>K (x::xs)
def oneOrTup:List AV→AV
 |[x]=>x
 |xs=>.tup xs
def endA(P:Program)(rs:List ResultVar)(res:AV):Post
 |.normal,s|.ret,s=>resA P rs s fun xs=>fz P s.h false res (oneOrTup xs)
 |_,_=>False
def idxL:Nat→List AV→List (Nat×AV)
 |_,[]=>[]
 |i,x::xs=>(i,x)::idxL (i+1) xs
def startA(γ:List (Nat×AV))(args:List AV)(n:Nat):St:={ s:=⟨args.length+(n-args.length),idxL 0 args,γ⟩,h:=[] }
structure Fix where
 P:Program
 G:Nat→Prop
 B:Nat→Prop
 w0:World
 hG:∀ r,G r→r<w0.heap.size
 hB:∀ r,B r→r<w0.heap.size
 K:List (Nat×Obj):=[]
 df:List Deferred:=[]
 c0:Option Cx:=none
def curOf(φ:List Nat)(h:List ABlk)(i:Nat):Option (ABlk×Nat):=
 match h[i]?,φ[i]? with
 |some k,some β=>some (k,β)
 |_,_=>none
theorem curOf_eq{φ:List Nat}{h:List ABlk}{i:Nat}{k:ABlk}{β:Nat}:curOf φ h i=some (k,β)↔h[i]?=some k∧φ[i]?=some β:=by
 unfold curOf;cases h[i]?<;>cases φ[i]?<;>simp
def cx(X:Fix)(φ:List Nat)(h:List ABlk)(w:World):Cx:=
 {P:=X.P,w,ok:=fun b r=>r<w.heap.size∧r∉φ∧(if b then X.B r else ¬X.G r),cur:=curOf φ h }
structure SR(X:Fix)(φ:List Nat)(st:St)(a:Act)(w:World):Prop where
 below:Below X.w0.heap.size X.w0 w
 defers:a.defers=X.df
 kp:∀ p∈X.K,w.heap[p.1]?=some p.2
 kd:∀ p∈X.K,p.1∉φ
 le0:∀ c,X.c0=some c→c.le (cx X φ st.h w)
 slots:∀ t,rel (look st.s.l t) (cx X φ st.h w) (a.tmps.getD t undef)
 len:a.tmps.size=st.s.n
 gl:∀ k,treeA (look st.s.g k)=true∧rel (look st.s.g k) (cx X φ st.h w) (.pointer (some ⟨k,0,none⟩))
 φlen:φ.length=st.h.length
 nodup:φ.Nodup
 rng:∀ β∈φ,X.w0.heap.size≤β∧β<w.heap.size
 blk:∀ (i:Nat) (k:ABlk) (β:Nat),st.h[i]?=some k→φ[i]?=some β→
  (∃ vs fr,w.heap[β]?=some (.cells vs k.e fr)∧k.cells.length≤vs.size∧(∀ off,off<vs.size→¬(fr.1≤off∧off<fr.2)))∧relAt k.cells (cx X φ st.h w) β 0
section
variable {X:Fix} {φ:List Nat} {st:St} {a:Act} {w:World}
theorem rel_ofV(c:Cx)(x:Value):rel (ofV x) c x:=by
 cases x<;>simp only[ofV,rel]
 rename_i cs;refine⟨cs,rfl,?_⟩;generalize cs.toList=l
 induction l with
 |nil=>simp[relL]
 |cons y l ih=>simp only[BA,relL,rel];exact⟨y,l,rfl,rfl,ih⟩
theorem SR.get(hs:SR X φ st a w)(x:Operand):rel (get st.s x) (cx X φ st.h w) (a.eval x):=by
 cases x with
 |tmp t=>exact hs.slots t
 |const v=>exact rel_ofV _ _
 |global g=>exact (hs.gl g).2
 |func f=>simp[Ev.get,Act.eval,rel]
theorem relL_set{c:Cx}{xs:List AV}{us:List Value}(h:relL xs c us)(t:Nat){r:AV}{u:Value}(hr:rel r c u):relL (xs.set t r) c (us.set t u):=by
 induction xs generalizing us t with
 |nil=>simp only[relL]at h;subst h;simp[relL]
 |cons x xs ih=>
  simp only[relL]at h;obtain⟨v,us',rfl,h2,h3⟩:=h;cases t with
  |zero=>simp only[Bx,relL];exact⟨u,us',rfl,hr,h3⟩
  |succ t=>simp only[Bw,relL];exact⟨v,_,rfl,h2,ih h3 t⟩
theorem SR.put(hs:SR X φ st a w)(dst:Option Tmp){r:AV}{u:Value}(hr:rel r (cx X φ st.h w) u):
  SR X φ { st with s:=putS st.s dst r } (a.put dst u) w:=by
 cases dst with
 |none=>exact hs
 |some d=>
  by_cases hd:d<st.s.n
  ·simp only[putS,if_pos hd];refine { hs with slots:=fun t=>?_,len:=by simp[Act.put,hs.len] };simp only[look,Act.put]
   split
   ·rename_i e;subst e;have:d<a.tmps.size:=by rw[hs.len];exact hd
    simpa[this]using hr
   ·rename_i e;have:=hs.slots t;simpa[Array.getElem?_setIfInBounds_ne e]using this
  ·simp only[putS,if_neg hd]
   have:a.put (some d) u=a:=by
    simp only[Act.put];rw[Array.setIfInBounds_eq_of_size_le (by rw[hs.len];exact Nat.not_lt.1 hd)]
   rw[this];exact hs
theorem cx_le_same{w':World}(hcell:∀ p:Addr,p.block<w.heap.size→w'.cell? p=w.cell? p)(hshape:∀ r,r<w.heap.size→w'.shape? r=w.shape? r)(hsize:w.heap.size≤w'.heap.size)(hr:∀ β∈φ,β<w.heap.size)(h:List ABlk):
  (cx X φ h w).le (cx X φ h w'):=
 ⟨rfl,fun b r ⟨h1,h2⟩=>⟨BO h1 hsize,h2⟩,fun b r off u ⟨h1,_⟩ hc=>(hcell ⟨r,off,none⟩ h1).trans hc,
  fun i k β hk=>⟨k,β,hk,BL _,fun _=>⟨rfl,rfl,hshape β (hr β (List.mem_of_getElem? (curOf_eq.1 hk).2))⟩⟩⟩
theorem relAt_le{c c':Cx}(h:c.le c'){r:Nat}(hcell:∀ off u,c.w.cell? ⟨r,off,none⟩=some u→c'.w.cell? ⟨r,off,none⟩=some u):∀ {xs:List AV} {off:Nat},relAt xs c r off→relAt xs c' r off
 |[],_,_=>by simp only[relAt]
 |x::xs,off,hr=>by
  simp only[relAt]at hr⊢;obtain⟨⟨u,h1,h2⟩,h3⟩:=hr;exact⟨⟨u,hcell _ _ h1,rel_mono h x _ h2⟩,relAt_le h hcell h3⟩
theorem SR.kp_lt(hs:SR X φ st a w){p:Nat×Obj}(h:p∈X.K):p.1<w.heap.size:=(BP.1 (hs.kp p h)).1
theorem SR.kp_not(hs:SR X φ st a w){p:Nat×Obj}(h:p∈X.K){i β:Nat}(hb:φ[i]?=some β):p.1≠β:=fun e'=>hs.kd p h (e'▸List.mem_of_getElem? hb)
theorem SR.world(hs:SR X φ st a w){w':World}(hb:Below w.heap.size w w'):SR X φ st a w':=by
 have hrng:=fun β hβ=>(hs.rng β hβ).2
 have hle:=cx_le_same (X:=X) (φ:=φ) (w:=w) (w':=w') (fun p hp=>hb.cell hp) (fun r hr=>by unfold World.shape?;rw[hb.block r hr]) hb.size hrng st.h;refine { below:=hs.below.trans (hb.mono hs.below.size),defers:=hs.defers,kp:=fun p hp=>(hb.block p.1 (hs.kp_lt hp)).trans (hs.kp p hp),kd:=hs.kd,le0:=fun c hc=>Cx.le_trans (hs.le0 c hc) hle,slots:=fun t=>rel_mono hle _ _ (hs.slots t),len:=hs.len,gl:=fun k=>⟨(hs.gl k).1,rel_mono hle _ _ (hs.gl k).2⟩,φlen:=hs.φlen,nodup:=hs.nodup,rng:=fun β hβ=>⟨(hs.rng β hβ).1,BO (hrng β hβ) hb.size⟩,blk:=fun i k β hk hβ=>?_ };obtain⟨⟨vs,fr,h1,h1',h2⟩,h3⟩:=hs.blk i k β hk hβ;have hlt:=hrng β (List.mem_of_getElem? hβ);exact⟨⟨vs,fr,by rw[hb.block β hlt];exact h1,h1',h2⟩,relAt_le hle (fun off u hc=>(hb.cell (p:=⟨β,off,none⟩) hlt).trans hc) h3⟩
theorem below_drew(w:World):Below w.heap.size w w.drew:=(Below.refl _ _).drew
theorem heap_alloc_new(w:World)(o:Obj):(w.alloc o).heap[w.heap.size]?=some o:=by show (w.heap.push o)[w.heap.size]?=_;simp
theorem SR.push(hs:SR X φ st a w){vs:Array Value}{e:TypeId}{fr:Nat×Nat}{cells:List AV}{ver:Nat}(hc:relL cells (cx X φ st.h w) (vs.toList.take cells.length))(hfr:∀ off,off<vs.size→¬(fr.1≤off∧off<fr.2)):
  SR X (φ++[w.heap.size]) { st with h:=st.h++[⟨ver,e,cells⟩] } a (w.alloc (.cells vs e fr))∧(cx X φ st.h w).le (cx X (φ++[w.heap.size]) (st.h++[⟨ver,e,cells⟩]) (w.alloc (.cells vs e fr))):=by
 have hnot:w.heap.size∉φ:=fun hm=>Nat.lt_irrefl _ (hs.rng _ hm).2
 have hlt:∀ β∈φ,β<w.heap.size:=fun β hβ=>(hs.rng β hβ).2
 have hle:(cx X φ st.h w).le (cx X (φ++[w.heap.size]) (st.h++[⟨ver,e,cells⟩]) (w.alloc (.cells vs e fr))):=by
  refine⟨rfl,fun b r ⟨h1,h2,h3⟩=>⟨by simp;omega,by simp[h2];omega,h3⟩,fun b r off u ⟨h1,_⟩ hc=>?_,fun i k β hk=>⟨k,β,?_,BL _,fun _=>⟨rfl,rfl,?_⟩⟩⟩
  ·exact (World.cell?_alloc_lt _ _ ⟨r,off,none⟩ h1).trans hc
  ·obtain⟨h1,h2⟩:=curOf_eq.1 hk;exact curOf_eq.2 ⟨by rw[Ba (Bs.1 h1).1];exact h1,by rw[Ba (Bs.1 h2).1];exact h2⟩
  ·have hl:=hlt β (List.mem_of_getElem? (curOf_eq.1 hk).2);simp only[cx,World.shape?];rw[Below.heap_alloc _ _ _ hl]
 refine⟨{ below:=hs.below.alloc hs.below.size _,defers:=hs.defers,kp:=fun p hp=>(Below.heap_alloc _ _ _ (hs.kp_lt hp)).trans (hs.kp p hp),kd:=(fun p hp hm=>by have h1:=hs.kp_lt hp;rcases List.mem_append.1 hm with h|h;exact hs.kd p hp h;simp at h;omega),le0:=fun c hc=>Cx.le_trans (hs.le0 c hc) hle,slots:=fun t=>rel_mono hle _ _ (hs.slots t),len:=hs.len,gl:=fun k=>⟨(hs.gl k).1,rel_mono hle _ _ (hs.gl k).2⟩,φlen:=by simp[hs.φlen],nodup:=?_,rng:=?_,blk:=?_ },hle⟩
 ·rw[List.nodup_append];exact⟨hs.nodup,by simp,fun x hx y hy=>by simp at hy;subst hy;exact fun e=>hnot (e▸hx)⟩
 ·intro β hβ
  rcases List.mem_append.1 hβ with h|h
  ·exact⟨(hs.rng β h).1,by simp;have:=hlt β h;omega⟩
  ·simp at h;subst h;exact⟨hs.below.size,by simp⟩
 ·intro i k β hk hβ
  by_cases hi:i<st.h.length
  ·rw[Ba hi]at hk;rw[Ba (by rw[hs.φlen];exact hi)]at hβ;obtain⟨⟨vs',fr',h1,h1',h2⟩,h3⟩:=hs.blk i k β hk hβ;have hl:=hlt β (List.mem_of_getElem? hβ);exact⟨⟨vs',fr',by rw[Below.heap_alloc _ _ _ hl];exact h1,h1',h2⟩,relAt_le hle (fun off u hc=>(World.cell?_alloc_lt _ _ ⟨β,off,none⟩ hl).trans hc) h3⟩
  ·rw[Br (by omega)]at hk;rw[Br (by rw[hs.φlen];omega)]at hβ
   have hi':i-st.h.length=0:=by
    have:=(Bs.1 hk).1;simp at this;omega
   rw[hi']at hk;rw[hs.φlen,hi']at hβ;simp at hk hβ;subst hk;subst hβ
   have hlen:cells.length≤vs.size:=by
    have:=relL_length hc;simp at this;omega
   refine⟨⟨vs,fr,heap_alloc_new _ _,hlen,hfr⟩,relAt_of_get fun j x hj=>?_⟩;obtain⟨u,hu,hr⟩:=relL_get hc j x hj;refine⟨u,?_,rel_mono hle x u hr⟩;have hjl:=(Bs.1 hj).1;rw[BY,if_pos hjl]at hu;simp only[cx,World.cell?,Nat.zero_add,heap_alloc_new];simpa using hu
theorem curOf_set{φ:List Nat}{h:List ABlk}{i j:Nat}{k k':ABlk}{β β':Nat}(hc:curOf φ h j=some (k,β))(k1:ABlk)(β1:Nat):
  ∃ k2 β2,curOf (φ.set i β1) (h.set i k1) j=some (k2,β2)∧(i=j→k2=k1∧β2=β1)∧(i≠j→k2=k∧β2=β):=by
 obtain⟨h1,h2⟩:=curOf_eq.1 hc
 by_cases e:i=j
 ·subst e;have l1:=(Bs.1 h1).1;have l2:=(Bs.1 h2).1;exact⟨k1,β1,curOf_eq.2 ⟨by simp[l1],by simp[l2]⟩,fun _=>⟨rfl,rfl⟩,fun h=>absurd rfl h⟩
 ·exact⟨k,β,curOf_eq.2 ⟨by rw[Bn e];exact h1,by rw[Bn e];exact h2⟩,fun h=>absurd h e,fun _=>⟨rfl,rfl⟩⟩
theorem set_self{α:Type}{l:List α}{i:Nat}{x:α}(h:l[i]?=some x):l.set i x=l:=by
 apply List.ext_getElem?
 intro j
 by_cases e:i=j
 ·subst e;rw[Be (Bs.1 h).1,h]
 ·rw[Bn e]
theorem nodup_get{l:List Nat}(h:l.Nodup){i j:Nat}{x:Nat}(hi:l[i]?=some x)(hj:l[j]?=some x):i=j:=by
 obtain⟨h1,e1⟩:=Bs.1 hi;obtain⟨h2,e2⟩:=Bs.1 hj;exact (List.getElem_inj h).1 (e1.trans e2.symm)
theorem SR.upd(hs:SR X φ st a w){w':World}{i:Nat}{k:ABlk}{β:Nat}(hk:st.h[i]?=some k)(hβ:φ[i]?=some β){vs vs':Array Value}{fr:Nat×Nat}{cells:List AV}{ver:Nat}(hver:k.ver≤ver)
  (hold:w.heap[β]?=some (.cells vs k.e fr)) (hnew:w'.heap[β]?=some (.cells vs' k.e fr)) (hvs:vs'.size=vs.size) (hoth:∀ r,r≠β→w'.heap[r]?=w.heap[r]?) (hsz:w'.heap.size=w.heap.size)
  (hos:w'.os=w.os) (htape:w'.tape=w.tape) (hout:w'.output=w.output) (hc:relL cells (cx X φ st.h w) (vs'.toList.take cells.length)) :
  SR X φ { st with h:=st.h.set i ⟨ver,k.e,cells⟩ } a w':=by
 have hβm:=List.mem_of_getElem? hβ;have hlt:=fun β hβ=>(hs.rng β hβ).2
 have hcell:∀ r off,r≠β→w'.cell? ⟨r,off,none⟩=w.cell? ⟨r,off,none⟩:=fun r off hr=>by unfold World.cell?;simp only[hoth r hr]
 have hle:(cx X φ st.h w).le (cx X φ (st.h.set i ⟨ver,k.e,cells⟩) w'):=by
  refine⟨rfl,fun b r ⟨h1,h2,h3⟩=>⟨by simpa[cx,hsz]using h1,h2,h3⟩,fun b r off u ⟨_,h2,_⟩ hu=>?_,fun j k2 β2 hj=>?_⟩
  ·have:r≠β:=fun e=>h2 (e▸hβm)
   exact (hcell r off this).trans hu
  ·obtain⟨k3,β3,h1,h2,h3⟩:=curOf_set (k':=k) (β':=β) hj ⟨ver,k.e,cells⟩ β (i:=i);rw[set_self hβ]at h1;obtain⟨g1,g2⟩:=curOf_eq.1 hj;refine⟨k3,β3,h1,?_,fun ev=>?_⟩
   ·by_cases ij:i=j
    ·obtain⟨rfl,_⟩:=h2 ij;subst ij;rw[hk]at g1;cases g1;exact hver
    ·obtain⟨rfl,_⟩:=h3 ij;exact BL _
   ·by_cases ij:i=j
    ·obtain⟨rfl,rfl⟩:=h2 ij;subst ij;rw[hk]at g1;cases g1;rw[hβ]at g2;cases g2;refine⟨rfl,rfl,?_⟩;simp only[cx,World.shape?,hold,hnew,hvs]
    ·obtain⟨rfl,rfl⟩:=h3 ij;refine⟨rfl,rfl,?_⟩;have:β3≠β:=fun e'=>ij (nodup_get hs.nodup hβ (e'▸g2))
     simp only[cx,World.shape?,hoth _ this]
 have hbw:Below X.w0.heap.size w w':=⟨hos,htape,hout,by omega,fun r hr=>hoth r (by have:=(hs.rng β hβm).1;omega)⟩;refine { below:=hs.below.trans hbw,defers:=hs.defers,kp:=fun p hp=>(hoth p.1 (hs.kp_not hp hβ)).trans (hs.kp p hp),kd:=hs.kd,le0:=fun c hc=>Cx.le_trans (hs.le0 c hc) hle,slots:=fun t=>rel_mono hle _ _ (hs.slots t),len:=hs.len,gl:=fun k=>⟨(hs.gl k).1,rel_mono hle _ _ (hs.gl k).2⟩,φlen:=by simp[hs.φlen],nodup:=hs.nodup,rng:=fun β' h'=>⟨(hs.rng β' h').1,by rw[hsz];exact hlt β' h'⟩,blk:=fun j k2 β2 hj hb2=>?_ }
 by_cases ij:i=j
 ·subst ij;rw[hβ]at hb2;cases hb2;have l1:=(Bs.1 hk).1;have:k2=⟨ver,k.e,cells⟩:=by simpa[l1]using hj.symm
  subst this;obtain⟨⟨vs0,fr0,h1,h1',h2⟩,h3⟩:=hs.blk i k β hk hβ;rw[hold]at h1;cases h1
  have hlen:cells.length≤vs'.size:=by
   have:=relL_length hc;simp at this;omega
  refine⟨⟨vs',fr,hnew,hlen,fun off ho=>h2 off (by omega)⟩,relAt_of_get fun j x hj'=>?_⟩;obtain⟨u,hu,hr⟩:=relL_get hc j x hj';refine⟨u,?_,rel_mono hle x u hr⟩;have hjl:=(Bs.1 hj').1;rw[BY,if_pos hjl]at hu;simp only[cx,World.cell?,Nat.zero_add,hnew];simpa using hu
 ·rw[Bn ij]at hj;have hne:β2≠β:=fun e'=>ij (nodup_get hs.nodup hβ (e'▸hb2))
  obtain⟨⟨vs0,fr0,h1,h1',h2⟩,h3⟩:=hs.blk j k2 β2 hj hb2;exact⟨⟨vs0,fr0,by rw[hoth _ hne];exact h1,h1',h2⟩,relAt_le hle (fun off u hu=>(hcell β2 off hne).trans hu) h3⟩
theorem SR.moved(hs:SR X φ st a w){i:Nat}{k:ABlk}{β:Nat}(hk:st.h[i]?=some k)(hβ:φ[i]?=some β){vs:Array Value}{e:TypeId}{fr:Nat×Nat}{cells:List AV}{ver:Nat}(hver:k.ver<ver)
  (hc:relL cells (cx X φ st.h w) (vs.toList.take cells.length)) (hfr:∀ off,off<vs.size→¬(fr.1≤off∧off<fr.2)) :
  SR X (φ.set i w.heap.size) { st with h:=st.h.set i ⟨ver,e,cells⟩ } a (w.alloc (.cells vs e fr)):=by
 have hnot:w.heap.size∉φ:=fun hm=>Nat.lt_irrefl _ (hs.rng _ hm).2
 have hlt:∀ β∈φ,β<w.heap.size:=fun β hβ=>(hs.rng β hβ).2
 have hle:(cx X φ st.h w).le (cx X (φ.set i w.heap.size) (st.h.set i ⟨ver,e,cells⟩) (w.alloc (.cells vs e fr))):=by
  refine⟨rfl,fun b r ⟨h1,h2,h3⟩=>⟨by simp;omega,fun hm=>?_,h3⟩,fun b r off u ⟨h1,_⟩ hu=>(World.cell?_alloc_lt _ _ ⟨r,off,none⟩ h1).trans hu,fun j k2 β2 hj=>?_⟩
  ·rcases List.mem_or_eq_of_mem_set hm with h|h
   ·exact h2 h
   ·omega
  ·obtain⟨k3,β3,h1,h2,h3⟩:=curOf_set (k':=k) (β':=β) hj ⟨ver,e,cells⟩ w.heap.size (i:=i);obtain⟨g1,g2⟩:=curOf_eq.1 hj;refine⟨k3,β3,h1,?_,fun ev=>?_⟩
   ·by_cases ij:i=j
    ·obtain⟨rfl,_⟩:=h2 ij;subst ij;rw[hk]at g1;cases g1;exact Nat.le_of_lt hver
    ·obtain⟨rfl,_⟩:=h3 ij;exact BL _
   ·by_cases ij:i=j
    ·obtain⟨rfl,rfl⟩:=h2 ij;subst ij;rw[hk]at g1;cases g1;simp at ev;omega
    ·obtain⟨rfl,rfl⟩:=h3 ij;refine⟨rfl,rfl,?_⟩;simp only[cx,World.shape?];rw[Below.heap_alloc _ _ _ (hlt _ (List.mem_of_getElem? g2))]
 refine { below:=hs.below.alloc hs.below.size _,defers:=hs.defers,kp:=fun p hp=>(Below.heap_alloc _ _ _ (hs.kp_lt hp)).trans (hs.kp p hp),kd:=(fun p hp hm=>by have h1:=hs.kp_lt hp;rcases List.mem_or_eq_of_mem_set hm with h|h;exact hs.kd p hp h;omega),le0:=fun c hc=>Cx.le_trans (hs.le0 c hc) hle,slots:=fun t=>rel_mono hle _ _ (hs.slots t),len:=hs.len,gl:=fun k=>⟨(hs.gl k).1,rel_mono hle _ _ (hs.gl k).2⟩,φlen:=by simp[hs.φlen],nodup:=?_,rng:=?_,blk:=?_ }
 ·rw[List.nodup_iff_pairwise_ne,List.pairwise_iff_getElem];intro p q hp hq hpq;have hp':p<φ.length:=by simpa using hp
  have hq':q<φ.length:=by simpa using hq
  rw[List.getElem_set,List.getElem_set]
  split<;>split
  ·omega
  ·exact fun e=>hnot (e▸List.getElem_mem hq')
  ·exact fun e=>hnot (e▸List.getElem_mem hp')
  ·exact fun e=>by have:=(List.getElem_inj hs.nodup).1 e;omega
 ·intro β' h'
  rcases List.mem_or_eq_of_mem_set h' with h|h
  ·exact⟨(hs.rng β' h).1,by simp;have:=hlt β' h;omega⟩
  ·subst h;exact⟨hs.below.size,by simp⟩
 ·intro j k2 β2 hj hb2
  by_cases ij:i=j
  ·subst ij;have l1:=(Bs.1 hk).1;have l2:=(Bs.1 hβ).1;have e1:k2=⟨ver,e,cells⟩:=by simpa[l1]using hj.symm
   have e2:β2=w.heap.size:=by simpa[l2]using hb2.symm
   subst e1;subst e2
   have hlen:cells.length≤vs.size:=by
    have:=relL_length hc;simp at this;omega
   refine⟨⟨vs,fr,heap_alloc_new _ _,hlen,hfr⟩,relAt_of_get fun j x hj'=>?_⟩;obtain⟨u,hu,hr⟩:=relL_get hc j x hj';refine⟨u,?_,rel_mono hle x u hr⟩;have hjl:=(Bs.1 hj').1;rw[BY,if_pos hjl]at hu;simp only[cx,World.cell?,Nat.zero_add,heap_alloc_new];simpa using hu
  ·rw[Bn ij]at hj hb2;obtain⟨⟨vs0,fr0,h1,h1',h2⟩,h3⟩:=hs.blk j k2 β2 hj hb2;have hl:=hlt β2 (List.mem_of_getElem? hb2);exact⟨⟨vs0,fr0,by rw[Below.heap_alloc _ _ _ hl];exact h1,h1',h2⟩,relAt_le hle (fun off u hu=>(World.cell?_alloc_lt _ _ ⟨β2,off,none⟩ hl).trans hu) h3⟩
mutual
theorem rel_cut{c c':Cx}(hP:c'.P=c.P)(hw:c'.w=c.w)(hok:∀ b r,c.ok b r→c'.ok b r){n:Nat}(hcur:∀ i,i<n→c'.cur i=c.cur i):∀ (x:AV) (u:Value),okRef n x=true→rel x c u→rel x c' u
 |.v _,_,_,hr=>hr
 |.nan,_,_,hr=>hr
 |.sl b m m' cs,u,_,hr=>by
  simp only[rel]at hr⊢;obtain⟨r,off,cap,h1,h2,h3,h4,h5⟩:=hr;exact⟨r,off,cap,h1,h2,h3,hok _ _ h4,relAt_mono (c:=c.shut) (c':=c'.shut) ⟨hP,hok,fun _ _ _ _ _ h=>by show c'.w.cell? _=_;rw[hw];exact h,fun _ _ _ h=>by cases h⟩ cs r off ⟨b,h4⟩ h5⟩
 |.ela b cs,u,_,hr=>by
  simp only[rel]at hr⊢;obtain⟨r,off,h1,h4,h5⟩:=hr;exact⟨r,off,h1,hok _ _ h4,relAt_mono (c:=c.shut) (c':=c'.shut) ⟨hP,hok,fun _ _ _ _ _ h=>by show c'.w.cell? _=_;rw[hw];exact h,fun _ _ _ h=>by cases h⟩ cs r off ⟨b,h4⟩ h5⟩
 |.agg cs,u,ho,hr=>by
  simp only[rel]at hr⊢;obtain⟨us,h1,h2⟩:=hr;exact⟨us,h1,relL_cut hP hw hok hcur cs _ (by simpa[okRef]using ho) h2⟩
 |.tup cs,u,ho,hr=>by
  simp only[rel]at hr⊢;obtain⟨us,h1,h2⟩:=hr;exact⟨us,h1,relL_cut hP hw hok hcur cs _ (by simpa[okRef]using ho) h2⟩
 |.ifc t x,u,ho,hr=>by
  simp only[rel]at hr⊢;obtain⟨y,h1,h2⟩:=hr;exact⟨y,h1,rel_cut hP hw hok hcur x _ (by simpa[okRef]using ho) h2⟩
 |.own i ver m,u,ho,hr=>by
  have hi:i<n:=by simpa[okRef]using ho
  simp only[rel]at hr⊢;rw[hcur i hi,hw,hP];exact hr
 |.ptr i ver off,u,ho,hr=>by
  have hi:i<n:=by simpa[okRef]using ho
  simp only[rel]at hr⊢;rw[hcur i hi];exact hr
 |.clo f fs cs,u,ho,hr=>by
  have ho':okRefL n fs=true∧okRefL n cs=true:=by simpa[okRef]using ho
  simp only[rel]at hr⊢;obtain⟨a,b,h1,h2,h3⟩:=hr;exact⟨a,b,h1,relL_cut hP hw hok hcur fs _ ho'.1 h2,relL_cut hP hw hok hcur cs _ ho'.2 h3⟩
 |.bad,_,_,_=>by simp only[rel]
theorem relL_cut{c c':Cx}(hP:c'.P=c.P)(hw:c'.w=c.w)(hok:∀ b r,c.ok b r→c'.ok b r){n:Nat}(hcur:∀ i,i<n→c'.cur i=c.cur i):∀ (xs:List AV) (us:List Value),okRefL n xs=true→relL xs c us→relL xs c' us
 |[],_,_,hr=>hr
 |x::xs,us,ho,hr=>by
  have ho':okRef n x=true∧okRefL n xs=true:=by simpa[okRefL]using ho
  simp only[relL]at hr⊢;obtain⟨u,us',h1,h2,h3⟩:=hr;exact⟨u,us',h1,rel_cut hP hw hok hcur x _ ho'.1 h2,relL_cut hP hw hok hcur xs _ ho'.2 h3⟩
end
theorem okRefL_get{n:Nat}:∀ {xs:List AV},okRefL n xs=true→∀ (j:Nat) x,xs[j]?=some x→okRef n x=true
 |[],_,j,x,h=>by simp at h
 |y::xs,ho,j,x,h=>by
  have ho':okRef n y=true∧okRefL n xs=true:=by simpa[okRefL]using ho
  cases j with
  |zero=>simp at h;subst h;exact ho'.1
  |succ j=>exact okRefL_get ho'.2 j x (by simpa using h)
theorem okRefB_get{n:Nat}:∀ {ks:List ABlk},okRefB n ks=true→∀ (j:Nat) k,ks[j]?=some k→okRefL n k.cells=true
 |[],_,j,x,h=>by simp at h
 |y::xs,ho,j,x,h=>by
  have ho':okRefL n y.cells=true∧okRefB n xs=true:=by simpa[okRefB]using ho
  cases j with
  |zero=>simp at h;subst h;exact ho'.1
  |succ j=>exact okRefB_get ho'.2 j x (by simpa using h)
theorem look_mem:∀ {l:List (Nat×AV)} {t:Nat},look l t=.bad∨(t,look l t)∈l
 |[],t=>.inl rfl
 |(d,r)::l,t=>by
  simp only[look]
  split
  ·rename_i e;subst e;exact .inr (by simp)
  ·rcases look_mem (l:=l) (t:=t)with h|h
   ·exact .inl h
   ·exact .inr (by simp[h])
theorem allIn_mem{l:List (Nat×AV)}:∀ {l2:List (Nat×AV)},allIn l l2→∀ d r,(d,r)∈l2→look l d=r
 |[],_,d,r,hm=>by simp at hm
 |(d',r')::l2,h,d,r,hm=>by
  simp only[allIn]at h
  rcases BI.1 hm with e|hm
  ·cases e;exact h.1
  ·exact allIn_mem h.2 d r hm
theorem okRefL_mem{n:Nat}:∀ {xs:List AV},okRefL n xs=true→∀ x∈xs,okRef n x=true
 |[],_,x,h=>by simp at h
 |y::xs,ho,x,h=>by
  have ho':okRef n y=true∧okRefL n xs=true:=by simpa[okRefL]using ho
  rcases BI.1 h with rfl|h
  ·exact ho'.1
  ·exact okRefL_mem ho'.2 x h
mutual
theorem okRef_tree{n:Nat}:∀ (x:AV),treeA x=true→okRef n x=true
 |.v _,_=>rfl
 |.nan,_=>rfl
 |.sl ..,_=>rfl
 |.ela ..,_=>rfl
 |.agg cs,h=>by simp only[okRef];exact okRefL_tree cs (by simpa[treeA]using h)
 |.tup cs,h=>by simp only[okRef];exact okRefL_tree cs (by simpa[treeA]using h)
 |.ifc _ x,h=>by simp only[okRef];exact okRef_tree x (by simpa[treeA]using h)
 |.own ..,h=>by simp[treeA]at h
 |.ptr ..,h=>by simp[treeA]at h
 |.clo _ fs cs,h=>by
  have h':treeL fs=true∧treeL cs=true:=by simpa[treeA]using h
  simp only[okRef,okRefL_tree fs h'.1,okRefL_tree cs h'.2,Bool.and_self]
 |.bad,_=>rfl
theorem okRefL_tree{n:Nat}:∀ (xs:List AV),treeL xs=true→okRefL n xs=true
 |[],_=>rfl
 |x::xs,h=>by
  have h':treeA x=true∧treeL xs=true:=by simpa[treeL]using h
  simp only[okRefL,okRef_tree x h'.1,okRefL_tree xs h'.2,Bool.and_self]
end
theorem SR.weak(hs:SR X φ st a w)(h0:X.c0=none){s2:St}(hw:st.weak s2):∃ φ',SR X φ' s2 a w:=by
 obtain⟨hn,hg,hl,h2⟩:=hw;obtain⟨⟨n2,l2,g2⟩,sh⟩:=s2;simp only at hn hg hl h2;subst hn;subst hg
 have hlook:∀ t,look l2 t=.bad∨look l2 t=look st.s.l t:=fun t=>by
  rcases look_mem (l:=l2) (t:=t)with h|h
  ·exact .inl h
  ·exact .inr (allIn_mem hl _ _ h).symm
 rcases h2 with rfl|⟨hsh,ho,hb⟩
 ·refine⟨φ,{ hs with slots:=fun t=>?_ }⟩
  rcases hlook t with h|h
  ·simp only[h,rel]
  ·simp only[h];exact hs.slots t
 ·obtain⟨n,hn⟩:∃ n,n=sh.length:=⟨_,rfl⟩;rw[←hn]at hsh ho hb;subst hsh;have hok:∀ b r,(cx X φ st.h w).ok b r→(cx X (φ.take n) (st.h.take n) w).ok b r:=fun b r ⟨g1,g2,g3⟩=>⟨g1,fun hm=>g2 (List.mem_of_mem_take hm),g3⟩
  have hcur:∀ i,i<n→(cx X (φ.take n) (st.h.take n) w).cur i=(cx X φ st.h w).cur i:=fun i hi=>by simp only[cx,curOf,BY,hi,if_true]
  refine⟨φ.take n,{ below:=hs.below,defers:=hs.defers,kp:=hs.kp,kd:=(fun p hp hm=>hs.kd p hp (List.mem_of_mem_take hm)),le0:=(fun c hc=>by rw[h0]at hc;cases hc),slots:=fun t=>?_,len:=hs.len,gl:=fun k=>⟨(hs.gl k).1,rel_cut (c:=cx X φ st.h w) (c':=cx X (φ.take n) (st.h.take n) w) rfl rfl hok hcur _ _ (okRef_tree _ (hs.gl k).1) (hs.gl k).2⟩,φlen:=by simp[hs.φlen],nodup:=hs.nodup.sublist (List.take_sublist _ _),rng:=fun β hβ=>hs.rng β (List.mem_of_mem_take hβ),blk:=fun i k β hk hβ=>?_ }⟩
  ·rcases look_mem (l:=l2) (t:=t)with h|h
   ·simp only[h,rel]
   ·have e:=allIn_mem hl _ _ h;have ho':okRef n (look l2 t)=true:=okRefL_mem ho _ (List.mem_map.2 ⟨_,h,rfl⟩);refine rel_cut (c:=cx X φ st.h w) (c':=cx X (φ.take n) (st.h.take n) w) rfl rfl hok hcur _ _ ho' ?_;rw[←e];exact hs.slots t
  ·have hi:i<n:=by
    by_cases hi:i<n
    ·exact hi
    ·rw[BY,if_neg hi]at hk;cases hk
   have hk':=hk;rw[BY,if_pos hi]at hk hβ;obtain⟨g1,g2⟩:=hs.blk i k β hk hβ;refine⟨g1,relAt_of_get fun j x hj=>?_⟩;obtain⟨u,hu,hr⟩:=relAt_get g2 j x hj;exact⟨u,hu,rel_cut (c:=cx X φ st.h w) (c':=cx X (φ.take n) (st.h.take n) w) rfl rfl hok hcur x u (okRefL_get (okRefB_get hb i k hk') j x hj) hr⟩
end
end Go.Ev
