/- A part of the proof. -/
import Derived.Test.YtlobiioioicmhaaGreatDoorAQ11
set_option linter.all false
set_option maxHeartbeats 8000000
namespace Go.Proofs.YtlobiioioicmhaaGreatDoor
open _root_.Bool renaming not_true→Bv,not_false→Bf
open _root_.List renaming getElem?_eq_some_iff→Bs,getElem?_set_self→Be,length_append→Bp,cons_append→Bc,getElem?_eq_none→Bq,length_drop→Bd,length_take→Bh,prefix_rfl→BB
open _root_.Nat renaming le_refl→BL,le_trans→BM,lt_of_lt_of_le→BO
open Go.Proofs.Tryz renaming prog→Tp
open Go Go.Ev
structure Pt where
 tag:List UInt8
 vars:List (List UInt8)
structure Ac where
 kind:Int
 to:List Nd
 name:List UInt8
 var:List UInt8
 args:List (List Nd)
structure Ch where
 name:List UInt8
 parts:List Pt
 guard:List Nd
 body:List Ac
def NF(n:Nat)(cs:List AV):AV:=match n with
 |0=>.v (.slice none 0 0)
 |_+1=>.sl false n n cs
def Aj(s:List UInt8):AV:=.v (.string ⟨s.toArray⟩)
def GY(l:List (List UInt8)):AV:=NF l.length (l.map Aj)
def Bb(k:Int):AV:=.v (.int .i64 k)
def Eo(l:List (List Nd)):AV:=NF l.length (l.map Ab)
def Pt.cells(p:Pt):List AV:=[Aj p.tag,GY p.vars]
def E7(l:List Pt):AV:=NF l.length (l.flatMap Pt.cells)
def Ac.cells(a:Ac):List AV:=[Bb a.kind,Ab a.to,Aj a.name,Aj a.var,Eo a.args]
def Ga(l:List Ac):AV:=NF l.length (l.flatMap Ac.cells)
def Ch.cells(c:Ch):List AV:=[Aj c.name,E7 c.parts,Ab c.guard,Ga c.body]
inductive DR(α:Type) where
 |ok (x:α) (p:Nat)
 |bad (q:Nat) (e:Int)
def DR.bind{α β:Type}(r:DR α)(f:α→Nat→DR β):DR β:=match r with
 |.ok x p=>f x p
 |.bad q e=>.bad q e
def kJ:List UInt8:=[116,97,103]
def dA:List UInt8:=[107,105,110,100]
def HS:List UInt8:=[99,104,111,114,100]
def K6:List UInt8:=[119,104,101,110]
def Kv:List UInt8:=[115,101,110,100]
def HZ:List UInt8:=[115,112,97,119,110]
def Xg:List UInt8:=[97,115]
def Ib:List UInt8:=[114,101,112,108,121]
def Gf:List UInt8:=[98,101,99,111,109,101]
def cZ:List (List UInt8):=[kJ,dA,HS,K6,Kv,HZ,Xg,Ib,Gf]
def SC(s:List UInt8):Bool:=decide (s∈cZ)
def HJ(ts:List Tk)(p:Nat)(s:List UInt8):Bool:=match ts[p]? with
 |some t=>decide ((t.kind=5∨t.kind=1)∧t.text=s)
 |none=>false
def B9(ts:List Tk)(s:List UInt8)(p:Nat):DR Unit:=if HJ ts p s=true then .ok () (p+1)else .bad p 80
def EF(ts:List Tk)(p:Nat):DR (List UInt8):=match ts[p]? with
 |some t=>if t.kind=1∧SC t.text=false then .ok t.text (p+1)else .bad p 80
 |none=>.bad p 80
def FO(ts:List Tk)(p:Nat):DR (List Nd):=if (Ci ts p).2.2=0 then .ok (Ci ts p).1 (Ci ts p).2.1.toNat else .bad (Ci ts p).2.1.toNat (Ci ts p).2.2
def P6(ts:List Tk)(p:Nat):DR (List UInt8):=if HJ ts p [95]=true then .ok [95] (p+1)else EF ts p
def Gb{α:Type}(ts:List Tk)(I:Nat→DR α):Nat→List α→Nat→DR (List α)
 |0,_,p=>.bad p 80
 |f+1,l,p=>if HJ ts p [41]=true then .ok l (p+1)else if HJ ts p [44]=true then (I (p+1)).bind fun x q=>Gb ts I f (l++[x]) q else .bad p 80
def Hj{α:Type}(ts:List Tk)(I:Nat→DR α)(p:Nat):DR (List α):=
 (B9 ts [40] p).bind fun _ p1=>if HJ ts p1 [41]=true then .ok [] (p1+1)else (I p1).bind fun x q=>Gb ts I (ts.length+1) [x] q
def L1(ts:List Tk)(p:Nat):DR (List (List Nd)):=Hj ts (FO ts) p
def EN(ts:List Tk)(p:Nat):DR Pt:=(EF ts p).bind fun n p1=>(Hj ts (P6 ts) p1).bind fun l p2=>.ok ⟨n,l⟩ p2
def Es(ts:List Tk)(p:Nat):DR Ac:=
 if HJ ts p Kv=true then (FO ts (p+1)).bind fun x p1=>(EF ts p1).bind fun n p2=>(L1 ts p2).bind fun l p3=>.ok ⟨1,x,n,[],l⟩ p3
 else if HJ ts p HZ=true then (EF ts (p+1)).bind fun n p1=>(B9 ts Xg p1).bind fun _ p2=>(EF ts p2).bind fun v p3=>.ok ⟨2,[],n,v,[]⟩ p3
 else if HJ ts p Ib=true then (L1 ts (p+1)).bind fun l p1=>.ok ⟨3,[],[],[],l⟩ p1
 else if HJ ts p Gf=true then (EF ts (p+1)).bind fun n p1=>.ok ⟨4,[],n,[],[]⟩ p1
 else .bad p 80
def D7(ts:List Tk):Nat→List Ac→Nat→DR (List Ac)
 |0,_,p=>.bad p 80
 |f+1,l,p=>if HJ ts p [125]=true then .ok l (p+1)else (Es ts p).bind fun a p1=>(B9 ts [59] p1).bind fun _ p2=>D7 ts f (l++[a]) p2
def DX(ts:List Tk)(p:Nat):DR (List Ac):=(B9 ts [123] p).bind fun _ p1=>D7 ts (ts.length+1) [] p1
def Dl(ts:List Tk):Nat→List Pt→Nat→DR (List Pt)
 |0,_,p=>.bad p 80
 |f+1,l,p=>if HJ ts p [38]=true then (EN ts (p+1)).bind fun x q=>Dl ts f (l++[x]) q else .ok l p
def D0(ts:List Tk)(p:Nat):DR (List Nd):=if HJ ts p K6=true then FO ts (p+1)else .ok [] p
def EV(ts:List Tk)(p:Nat):DR Ch:=
 (B9 ts HS p).bind fun _ p1=>(EF ts p1).bind fun n p2=>(B9 ts [58] p2).bind fun _ p3=>(EN ts p3).bind fun x p4=>(Dl ts (ts.length+1) [x] p4).bind fun l p5=>(D0 ts p5).bind fun g p6=>(DX ts p6).bind fun b p7=>.ok ⟨n,l,g,b⟩ p7
def DR.adv{α:Type}(ts:List Tk)(p k:Nat):DR α→Prop
 |.ok _ q=>p+k≤q∧q≤ts.length
 |.bad q e=>q≤ts.length∧e≠0
theorem DR.adv_bind{α β:Type}{ts:List Tk}{p k:Nat}{r:DR α}{f:α→Nat→DR β}{j:Nat}(h:r.adv ts p j)(hf:∀ x q,r=.ok x q→p+j≤q→q≤ts.length→(f x q).adv ts p k):(r.bind f).adv ts p k:=by
 cases r with
 |ok x q=>exact hf x q rfl h.1 h.2
 |bad q e=>exact h
theorem DR.adv.le{α:Type}{ts:List Tk}{p p' k k':Nat}{r:DR α}(h:r.adv ts p k)(hk:p'+k'≤p+k):r.adv ts p' k':=by
 cases r with
 |ok x q=>exact⟨BM hk h.1,h.2⟩
 |bad q e=>exact h
theorem CW{ts:List Tk}{p:Nat}{s:List UInt8}(h:HJ ts p s=true):p<ts.length:=by
 unfold HJ at h;cases e:ts[p]? with
 |none=>rw[e]at h;cases h
 |some t=>exact (Bs.1 e).1
theorem Ea{ts:List Tk}{p:Nat}(hp:p≤ts.length)(s:List UInt8):(B9 ts s p).adv ts p 1:=by
 unfold B9
 split
 ·rename_i h;exact⟨BL _,CW h⟩
 ·exact⟨hp,by decide⟩
theorem DP{ts:List Tk}{p:Nat}(hp:p≤ts.length):(EF ts p).adv ts p 1:=by
 unfold EF
 split
 ·rename_i t e;have:=(Bs.1 e).1
  split
  ·exact⟨BL _,this⟩
  ·exact⟨hp,by decide⟩
 ·exact⟨hp,by decide⟩
theorem Qd{ts:List Tk}{p:Nat}(hp:p≤ts.length):(P6 ts p).adv ts p 1:=by
 unfold P6
 split
 ·rename_i h;exact⟨BL _,CW h⟩
 ·exact DP hp
theorem aZ(ts:List Tk):∀ (f:Nat) (m:Md) (p q:Nat),p≤ts.length→pr ts f m p=.bad q→q≤ts.length:=by
 intro f
 induction f with
 |zero=>intro m p q hp h;cases m<;>(cases h;exact hp)
 |succ f ih=>
  intro m p q hp h;have adv:=DY ts f;cases m with
  |bin n=>
   rw[pr]at h
   split at h
   ·exact ih _ _ _ hp h
   ·split at h
    ·rename_i e;cases h;exact ih _ _ _ hp e
    ·rename_i e;exact ih _ _ _ (adv _ _ _ _ hp e).2 h
  |lp n a=>
   rw[pr]at h
   split at h
   ·cases h
   ·rename_i hk;have hlt:=PG (fun e=>hk (.inl e))
    split at h
    ·rename_i e;cases h;exact ih _ _ _ (by omega) e
    ·rename_i e
     split at h
     ·cases h
     ·exact ih _ _ _ (adv _ _ _ _ (by omega) e).2 h
  |un=>
   rw[pr]at h
   split at h
   ·rename_i hm;have hlt:p<ts.length:=hm.elim CG CG
    split at h
    ·rename_i e;cases h;exact ih _ _ _ (by omega) e
    ·cases h
   ·exact ih _ _ _ hp h
  |fs=>
   rw[pr]at h
   split at h
   ·rename_i hm;have hlt:p<ts.length:=CG hm
    split at h
    ·rename_i e;cases h;exact ih _ _ _ (by omega) e
    ·rename_i e
     split at h
     ·cases h
     ·cases h;exact (adv _ _ _ _ (by omega) e).2
   ·split at h
    ·cases h;exact hp
    ·rename_i t e;have hlt:p<ts.length:=(Bs.1 e).1
     repeat' split at h
     all_goals first|(cases h;done)|(cases h;exact hp)|exact ih _ _ _ (by omega) h
  |nm s=>
   rw[pr]at h
   split at h
   ·cases h
   split at h
   ·cases h
   split at h
   ·cases h
   split at h
   ·cases h;exact hp
   rename_i hm;have hlt:p<ts.length:=CG (Decidable.not_not.1 hm)
   split at h
   ·rename_i e;cases h;exact ih _ _ _ (by omega) e
   rename_i e;have h1:=(adv _ _ _ _ (by omega) e).2
   split at h
   ·split at h
    ·cases h;exact h1
    rename_i hm2;have hlt2:=CG (Decidable.not_not.1 hm2)
    split at h
    ·rename_i e2;cases h;exact ih _ _ _ (by omega) e2
    ·rename_i e2
     split at h
     ·cases h
     ·cases h;exact (adv _ _ _ _ (by omega) e2).2
   ·split at h
    ·cases h
    ·cases h;exact h1
theorem Hu{ts:List Tk}{p:Nat}(hp:p≤ts.length):((Ci ts p).2.2=0→(p:Int)<(Ci ts p).2.1)∧0≤(Ci ts p).2.1∧(Ci ts p).2.1≤ts.length:=by
 unfold Ci;rw[if_neg (by omega),Int.toNat_natCast];have hc:=LS hp;have hcl:(ts.take (D6 ts p)).length=D6 ts p:=by rw[Bh];omega
 have hpc:p≤(ts.take (D6 ts p)).length:=by rw[hcl];unfold D6;omega
 cases e:Hs (ts.take (D6 ts p)) p with
 |bad q=>
  have:=aZ _ _ _ _ _ hpc e
  dsimp only
  exact⟨fun h=>absurd h (by decide),by omega,by omega⟩
 |ok t q=>
  obtain⟨⟨h1,_⟩,h2⟩:=DY _ _ _ _ _ _ hpc e
  dsimp only
  split
  ·dsimp only
   exact⟨fun _=>by omega,by omega,by omega⟩
  ·rename_i hk
   dsimp only
   exact⟨fun h=>absurd h hk,by omega,by omega⟩
theorem GR{ts:List Tk}{p:Nat}(hp:p≤ts.length):(FO ts p).adv ts p 1:=by
 obtain⟨h1,h2,h3⟩:=Hu hp;unfold FO
 split
 ·rename_i h;have:=h1 h;exact⟨by omega,by omega⟩
 ·rename_i h;exact⟨by omega,h⟩
theorem Se{α:Type}{ts:List Tk}{I:Nat→DR α}(hI:∀ p,p≤ts.length→(I p).adv ts p 1):∀ (f:Nat) (l:List α) (p:Nat),p≤ts.length→(Gb ts I f l p).adv ts p 1
 |0,l,p,hp=>⟨hp,by decide⟩
 |f+1,l,p,hp=>by
  rw[Gb]
  split
  ·rename_i h;exact⟨BL _,CW h⟩
  split
  ·rename_i h;have:=CW h;exact DR.adv_bind (j:=2) ((hI (p+1) this).le (by omega)) fun x q _ h1 h2=>(Se hI f _ q h2).le (by omega)
  ·exact⟨hp,by decide⟩
theorem R1{α:Type}{ts:List Tk}{I:Nat→DR α}(hI:∀ p,p≤ts.length→(I p).adv ts p 1){p:Nat}(hp:p≤ts.length):(Hj ts I p).adv ts p 1:=by
 unfold Hj;refine DR.adv_bind (Ea hp _) fun _ p1 _ h1 h2=>?_
 split
 ·rename_i h;exact⟨by omega,CW h⟩
 ·exact DR.adv_bind (j:=2) ((hI p1 h2).le (by omega)) fun x q _ h3 h4=>(Se hI _ _ q h4).le (by omega)
theorem MT{ts:List Tk}{p:Nat}(hp:p≤ts.length):(L1 ts p).adv ts p 1:=R1 (fun _=>GR) hp
theorem Hp{ts:List Tk}{p:Nat}(hp:p≤ts.length):(EN ts p).adv ts p 1:=by
 unfold EN;refine DR.adv_bind (DP hp) fun n p1 _ h1 h2=>?_
 exact DR.adv_bind (j:=2) ((R1 (fun _=>Qd) h2).le (by omega)) fun n p2 _ h3 h4=>⟨by omega,h4⟩
theorem Uw{ts:List Tk}{p:Nat}(hp:p≤ts.length):(Es ts p).adv ts p 1:=by
 unfold Es
 split
 ·rename_i h;have hl:=CW h;refine DR.adv_bind (j:=2) ((GR hl).le (by omega)) fun n p1 _ h1 h2=>?_
  refine DR.adv_bind (j:=2) ((DP h2).le (by omega)) fun n p1 _ h1 h2=>?_
  exact DR.adv_bind (j:=2) ((MT h2).le (by omega)) fun n p1 _ h1 h2=>⟨by omega,h2⟩
 split
 ·rename_i h;have hl:=CW h;refine DR.adv_bind (j:=2) ((DP hl).le (by omega)) fun n p1 _ h1 h2=>?_
  refine DR.adv_bind (j:=2) ((Ea h2 _).le (by omega)) fun n p1 _ h1 h2=>?_
  exact DR.adv_bind (j:=2) ((DP h2).le (by omega)) fun n p1 _ h1 h2=>⟨by omega,h2⟩
 split
 ·rename_i h;have hl:=CW h;exact DR.adv_bind (j:=2) ((MT hl).le (by omega)) fun n p1 _ h1 h2=>⟨by omega,h2⟩
 split
 ·rename_i h;have hl:=CW h;exact DR.adv_bind (j:=2) ((DP hl).le (by omega)) fun n p1 _ h1 h2=>⟨by omega,h2⟩
 ·exact⟨hp,by decide⟩
theorem R7{ts:List Tk}:∀ (f:Nat) (l:List Ac) (p:Nat),p≤ts.length→(D7 ts f l p).adv ts p 1
 |0,l,p,hp=>⟨hp,by decide⟩
 |f+1,l,p,hp=>by
  rw[D7]
  split
  ·rename_i h;exact⟨BL _,CW h⟩
  ·refine DR.adv_bind (Uw hp) fun a p1 _ h1 h2=>?_
   refine DR.adv_bind (j:=2) ((Ea h2 _).le (by omega)) fun _ p2 _ h3 h4=>?_
   exact (R7 f _ p2 h4).le (by omega)
theorem Y3{ts:List Tk}{p:Nat}(hp:p≤ts.length):(DX ts p).adv ts p 1:=by
 unfold DX;exact DR.adv_bind (Ea hp _) fun _ p1 _ h1 h2=>(R7 _ _ p1 h2).le (by omega)
theorem KB{ts:List Tk}:∀ (f:Nat) (l:List Pt) (p:Nat),p≤ts.length→(Dl ts f l p).adv ts p 0
 |0,l,p,hp=>⟨hp,by decide⟩
 |f+1,l,p,hp=>by
  rw[Dl]
  split
  ·rename_i h;exact DR.adv_bind (j:=2) ((Hp (CW h)).le (by omega)) fun x q _ h1 h2=>(KB f _ q h2).le (by omega)
  ·exact⟨BL _,hp⟩
theorem Om{ts:List Tk}{p:Nat}(hp:p≤ts.length):(D0 ts p).adv ts p 0:=by
 unfold D0
 split
 ·rename_i h;exact (GR (CW h)).le (by omega)
 ·exact⟨BL _,hp⟩
theorem VW{ts:List Tk}{p:Nat}(hp:p≤ts.length):(EV ts p).adv ts p 1:=by
 unfold EV;refine DR.adv_bind (Ea hp _) fun _ p1 _ h1 h2=>?_
 refine DR.adv_bind (j:=2) ((DP h2).le (by omega)) fun n p2 _ h3 h4=>?_
 refine DR.adv_bind (j:=2) ((Ea h4 _).le (by omega)) fun _ p3 _ h5 h6=>?_
 refine DR.adv_bind (j:=2) ((Hp h6).le (by omega)) fun _ p4 _ h7 h8=>?_
 refine DR.adv_bind (j:=2) ((KB _ _ _ h8).le (by omega)) fun _ p5 _ h9 h10=>?_
 refine DR.adv_bind (j:=2) ((Om h10).le (by omega)) fun _ p6 _ h11 h12=>?_
 exact DR.adv_bind (j:=2) ((Y3 h12).le (by omega)) fun _ p7 _ h13 h14=>⟨by omega,h14⟩
def Rd(S:Nat→Prop)(h:List Aa)(y x:AV):Prop:=∀ h',Fr S h h'→fz Tp h' false y x
def AL(S:Nat→Prop)(h:List Aa)(ys xs:List AV):Prop:=∀ h',Fr S h h'→EW Tp h' false ys xs
def Old(n:Nat)(k:Nat):Prop:=k<n
theorem Rd.fz{S:Nat→Prop}{h:List Aa}{y x:AV}(a:Rd S h y x):Go.Ev.fz Tp h false y x:=a h (Fr.refl _ _)
theorem AL.fz{S:Nat→Prop}{h:List Aa}{y x:List AV}(a:AL S h y x):EW Tp h false y x:=a h (Fr.refl _ _)
theorem Fr.up{S S' S1:Nat→Prop}{m:Nat}{h2 h3 h4:List Aa}(f:Fr S1 h2 h3)(h1:∀ k,S1 k→k<h2.length→S k)(h1':∀ k,S' k→k<h2.length→S k)(g:Fr S' h3 h4):Fr S h2 h4:=
 ⟨BM f.1 g.1,fun k hk hn=>(g.2 k (BO hk f.1) fun e=>hn (h1' k e hk)).trans (f.2 k hk fun e=>hn (h1 k e hk))⟩
theorem Rd.up{S S' S1:Nat→Prop}{h2 h3:List Aa}{y x:AV}(a:Rd S h2 y x)(f:Fr S1 h2 h3)(h1:∀ k,S1 k→k<h2.length→S k)(h1':∀ k,S' k→k<h2.length→S k):Rd S' h3 y x:=
 fun h4 g=>a h4 (Fr.up (m:=0) f h1 h1' g)
theorem AL.up{S S' S1:Nat→Prop}{h2 h3:List Aa}{y x:List AV}(a:AL S h2 y x)(f:Fr S1 h2 h3)(h1:∀ k,S1 k→k<h2.length→S k)(h1':∀ k,S' k→k<h2.length→S k):AL S' h3 y x:=
 fun h4 g=>a h4 (Fr.up (m:=0) f h1 h1' g)
theorem AL.nil{S:Nat→Prop}{h:List Aa}:AL S h [] []:=fun _ _=>by simp only[EW]
theorem AL.cons{S:Nat→Prop}{h:List Aa}{y x:AV}{ys xs:List AV}(a:Rd S h y x)(b:AL S h ys xs):AL S h (y::ys) (x::xs):=fun h' f=>by
 simp only[EW];exact⟨_,_,rfl,a h' f,b h' f⟩
theorem NC{P:Program}{H:List Aa}{b:Bool}:∀ {ys xs ys' xs':List AV},EW P H b ys xs→EW P H b ys' xs'→EW P H b (ys++ys') (xs++xs')
 |[],xs,ys',xs',h1,h2=>by simp only[EW]at h1;subst h1;exact h2
 |y::ys,xs,ys',xs',h1,h2=>by
  simp only[EW]at h1;obtain⟨x,xs1,rfl,e1,e2⟩:=h1;simp only[Bc,EW];exact⟨_,_,rfl,e1,NC e2 h2⟩
theorem AL.append{S:Nat→Prop}{h:List Aa}{ys xs ys' xs':List AV}(a:AL S h ys xs)(b:AL S h ys' xs'):AL S h (ys++ys') (xs++xs'):=fun h' f=>NC (a h' f) (b h' f)
theorem Rd.val{S:Nat→Prop}{h:List Aa}(v:Value):Rd S h (.v v) (.v v):=fun _ _=>by simp only[Go.Ev.fz]
theorem Rd.str{S:Nat→Prop}{h:List Aa}(s:List UInt8):Rd S h (Aj s) (Aj s):=Rd.val _
theorem Rd.int{S:Nat→Prop}{h:List Aa}(k:Int):Rd S h (Bb k) (Bb k):=Rd.val _
theorem Rd.sl{S:Nat→Prop}{h:List Aa}(b:Bool)(n m:Nat)(cs:List AV):Rd S h (.sl b n m cs) (.sl b n m cs):=fun _ _=>by simp only[Go.Ev.fz,true_or]
theorem Rd.nodes{S:Nat→Prop}{h:List Aa}(l:List Nd):Rd S h (Ab l) (Ab l):=by
 cases l with
 |nil=>exact Rd.val _
 |cons x l=>exact Rd.sl _ _ _ _
theorem Rd.agg{S:Nat→Prop}{h:List Aa}{ys xs:List AV}(a:AL S h ys xs):Rd S h (.agg ys) (.agg xs):=fun h' f=>by
 simp only[Go.Ev.fz];exact⟨_,rfl,a h' f⟩
def GL(n0:Nat)(t:TypeId)(sz:Nat)(h:List Aa)(N:AV)(n:Nat)(ys:List AV):Prop:=
 (N=.v (.slice none 0 0)∧n=0∧ys=[])∨∃ j ver xs,N=.own j ver n∧0<n∧n0≤j∧h[j]?=some ⟨ver,t,xs⟩∧xs.length=n * sz∧AL (fun k=>k<n0∨k=j) h ys xs
theorem GL.nil{n0:Nat}{t:TypeId}{sz:Nat}{h:List Aa}:GL n0 t sz h (.v (.slice none 0 0)) 0 []:=.inl ⟨rfl,rfl,rfl⟩
theorem GL.fr{n0:Nat}{t:TypeId}{sz:Nat}{h h':List Aa}{N:AV}{n:Nat}{ys:List AV}{S:Nat→Prop}(a:GL n0 t sz h N n ys)(f:Fr S h h')(hS:∀ k,S k→k<h.length→k<n0∧¬Cc N k):GL n0 t sz h' N n ys:=by
 rcases a with a|⟨j,ver,xs,rfl,hn,hj0,hj,hl,hr⟩
 ·exact .inl a
 ·have hjl:=(Bs.1 hj).1;exact .inr ⟨j,ver,xs,rfl,hn,hj0,f.at hj (fun e=>(hS j e hjl).2 rfl),hl,hr.up f (fun k e hk=>.inl (hS k e hk).1) (fun k e _=>e)⟩
theorem GL.lt{n0:Nat}{t:TypeId}{sz:Nat}{h:List Aa}{N:AV}{n:Nat}{ys:List AV}(a:GL n0 t sz h N n ys){k:Nat}(hk:Cc N k):n0≤k∧k<h.length:=by
 rcases a with⟨rfl,_⟩|⟨j,ver,xs,rfl,hn,hj0,hj,hl,hr⟩
 ·exact hk.elim
 ·have hk':k=j:=hk;subst hk';exact⟨hj0,(Bs.1 hj).1⟩
theorem GL.fr0{n0:Nat}{t:TypeId}{sz:Nat}{h h':List Aa}{N:AV}{n:Nat}{ys:List AV}{S:Nat→Prop}(a:GL n0 t sz h N n ys)(f:Fr S h h')(hS:∀ k,S k→k<n0):GL n0 t sz h' N n ys:=
 a.fr f fun k e _=>⟨hS k e,fun hk=>by have:=(a.lt hk).1;have:=hS k e;omega⟩
theorem GL.rd{n0:Nat}{t:TypeId}{sz:Nat}{h:List Aa}{N:AV}{n:Nat}{ys:List AV}(a:GL n0 t sz h N n ys):Rd (Old n0) h (NF n ys) N:=by
 rcases a with⟨rfl,rfl,rfl⟩|⟨j,ver,xs,rfl,hn,hj0,hj,hl,hr⟩
 ·exact Rd.val _
 ·intro h' f;obtain⟨n,rfl⟩:∃ m,n=m+1:=⟨n-1,by omega⟩;have hj':=f.at hj (fun e=>by have:j<n0:=e;omega);simp only[NF,Go.Ev.fz];exact .inr ⟨trivial,j,_,xs,rfl,hj',BL _,.inl trivial,BB,hr h' (f.mono fun k e=>.inl e)⟩
theorem GL.push{n0:Nat}{t:TypeId}{sz:Nat}{h h':List Aa}{N:AV}{n:Nat}{ys es ecs:List AV}{j' ver':Nat}{xs:List AV}(a:GL n0 t sz h N n ys)
  (hx:∀ j ver,N=.own j ver n→j'=j∧h[j]?=some ⟨ver,t,xs⟩) (hx0:N=.v (.slice none 0 0)→h.length≤j'∧xs=[]) (hn0:n0≤h.length)
  (f:Fr (fun k=>k<n0∨Cc N k) h h') (hj:h'[j']?=some ⟨ver',t,xs++es⟩) (hl:es.length=sz) (he:AL (fun k=>k<n0∨Cc N k) h ecs es):GL n0 t sz h' (.own j' ver' (n+1)) (n+1) (ys++ecs):=by
 rcases a with⟨rfl,rfl,rfl⟩|⟨j,ver,xs1,rfl,hn,hj0,hj1,hl1,hr⟩
 ·obtain⟨h1,rfl⟩:=hx0 rfl;refine .inr ⟨j',ver',_,rfl,Nat.succ_pos _,by omega,hj,by simp[hl],?_⟩;exact he.up f (fun k e _=>e) fun k e hk=>e.elim .inl fun e=>by omega
 ·obtain⟨rfl,h2⟩:=hx j ver rfl;rw[hj1]at h2;cases h2;refine .inr ⟨j',ver',_,rfl,Nat.succ_pos _,hj0,hj,by rw[Bp,hl1,hl,Nat.succ_mul],?_⟩;have f':Fr (fun k=>k<n0∨k=j') h h':=f;exact (hr.up f' (fun k e _=>e) (fun k e _=>e)).append (he.up f' (fun k e _=>e) (fun k e _=>e))
set_option maxRecDepth 20000
variable {γ:List (Nat×AV)} {ts:List Tk} {L:AV}
theorem B4:AW Tp 127=some false∧
  AW Tp 128=some false∧
  AW Tp 130=some true∧
  AW Tp 133=some false∧
  AW Tp 135=some true∧
  AW Tp 137=some true∧
  AW Tp 26=some false∧
  AW Tp 3=some false∧
  AW Tp 41=some true∧
  AW Tp 48=some false∧
  AW Tp 53=some true∧
  AW Tp 56=some false∧
  AW Tp 59=some true∧
  AW Tp 68=some false∧
  AW Tp 69=some false∧
  AW Tp 71=some true∧
  AW Tp 78=some false∧
  AW Tp 88=some false∧
  AW Tp 9=some false∧
  AW Tp 90=some true∧
  Ic Tp 128 128=some (9,1,16)∧
  Ic Tp 133 133=some (41,1,24)∧
  Ic Tp 56 56=some (130,2,40)∧
  Ic Tp 57 57=some (135,5,88)∧
  Ic Tp 68 68=some (137,2,40)∧
  Ic Tp 69 69=some (90,2,40)∧
  Ic Tp 78 78=some (3,1,8)∧
  Ic Tp 88 88=some (59,4,88)∧
  A5 Tp 37=some 5∧
  A5 Tp 48=some 53∧
  Ak Tp 130 1=some (1,128)∧
  Ak Tp 135 2=some (2,9)∧
  Ak Tp 135 3=some (3,9)∧
  Ak Tp 135 4=some (4,133)∧
  Ak Tp 137 1=some (1,78)∧
  Ak Tp 199 0=some (0,48)∧
  Ak Tp 199 1=some (1,3)∧
  Ak Tp 199 2=some (2,3)∧
  Ak Tp 201 0=some (0,3)∧
  Ak Tp 201 1=some (1,26)∧
  Ak Tp 53 0=some (0,3)∧
  Ak Tp 53 1=some (1,9)∧
  Ak Tp 53 4=some (4,3)∧
  Ak Tp 59 1=some (1,56)∧
  Ak Tp 59 2=some (2,41)∧
  Ak Tp 59 3=some (3,57)∧
  Ak Tp 71 0=some (0,68)∧
  Ak Tp 71 1=some (1,69)∧
  Ak Tp 90 1=some (1,88)∧
  FU Tp 20=some true∧
  FU Tp 201=some false∧
  MC Tp 128=some (9,1,[.v (.string ⟨#[]⟩)])∧
  MC Tp 133=some (41,1,[.v (.slice none 0 0)])∧
  MC Tp 56=some (130,2,[.v (.string ⟨#[]⟩),.v (.slice none 0 0)])∧
  MC Tp 57=some (135,5,[.v (.int .i64 0),.v (.slice none 0 0),.v (.string ⟨#[]⟩),.v (.string ⟨#[]⟩),.v (.slice none 0 0)])∧
  MC Tp 68=some (137,2,[.v (.string ⟨#[]⟩),.v (.slice none 0 0)])∧
  MC Tp 69=some (90,2,[.v (.string ⟨#[]⟩),.v (.slice none 0 0)])∧
  MC Tp 78=some (3,1,[.v (.int .i64 0)])∧
  MC Tp 88=some (59,4,[.v (.string ⟨#[]⟩),.v (.slice none 0 0),.v (.slice none 0 0),.v (.slice none 0 0)])∧
  BR Tp 130=some [(0,1),(1,1)]∧
  BR Tp 135=some [(0,1),(1,1),(2,1),(3,1),(4,1)]∧
  BR Tp 137=some [(0,1),(1,1)]∧
  BR Tp 199=some [(0,1),(1,1),(2,1)]∧
  BR Tp 201=some [(0,1),(1,1)]∧
  BR Tp 59=some [(0,1),(1,1),(2,1),(3,1)]∧
  BR Tp 90=some [(0,1),(1,1)]∧
  Ap Tp 128=some 1∧
  Ap Tp 130=some 2∧
  Ap Tp 133=some 1∧
  Ap Tp 135=some 5∧
  Ap Tp 137=some 2∧
  Ap Tp 201=some 2∧
  Ap Tp 26=some 1∧
  Ap Tp 3=some 1∧
  Ap Tp 41=some 1∧
  Ap Tp 48=some 1∧
  Ap Tp 5=some 1∧
  Ap Tp 53=some 6∧
  Ap Tp 56=some 1∧
  Ap Tp 57=some 1∧
  Ap Tp 59=some 4∧
  Ap Tp 68=some 1∧
  Ap Tp 69=some 1∧
  Ap Tp 71=some 2∧
  Ap Tp 78=some 1∧
  Ap Tp 88=some 1∧
  Ap Tp 9=some 1∧
  Ap Tp 90=some 2∧
  Hm Tp 130=some [.v (.string ⟨#[]⟩),.v (.slice none 0 0)]∧
  Hm Tp 133=some [.v (.slice none 0 0)]∧
  Hm Tp 135=some [.v (.int .i64 0),.v (.slice none 0 0),.v (.string ⟨#[]⟩),.v (.string ⟨#[]⟩),.v (.slice none 0 0)]∧
  Hm Tp 137=some [.v (.string ⟨#[]⟩),.v (.slice none 0 0)]∧
  Hm Tp 199=some [.v (.slice none 0 0),.v (.int .i64 0),.v (.int .i64 0)]∧
  Hm Tp 201=some [.v (.int .i64 0),.v (.int .i64 0)]∧
  Hm Tp 26=some [.v (.int .i64 0)]∧
  Hm Tp 3=some [.v (.int .i64 0)]∧
  Hm Tp 41=some [.v (.slice none 0 0)]∧
  Hm Tp 53=some [.v (.int .i64 0),.v (.string ⟨#[]⟩),.v (.int .i64 0),.v (.float .f64 0),.v (.int .i64 0),.v (.int .i64 0)]∧
  Hm Tp 59=some [.v (.string ⟨#[]⟩),.v (.slice none 0 0),.v (.slice none 0 0),.v (.slice none 0 0)]∧
  Hm Tp 71=some [.v (.slice none 0 0),.v (.slice none 0 0)]∧
  Hm Tp 90=some [.v (.string ⟨#[]⟩),.v (.slice none 0 0)]:=
 (by and_intros<;>kernel_rfl)
structure Gi(γ:List (Nat×AV))(L:AV)(ts:List Tk):Prop where
 gl:Gl γ
 glw:SY γ
 l:lE L ts
 ok:∀ t∈ts,Qo t
 n:ts.length≤2000000
theorem Gi.len(E:Gi γ L ts)(s:List Aa):Dr Tp 48 s L=some (.v (.int .i64 ts.length)):=by
 have e24:A5 Tp 48=some 53:=by kernel_rfl
 rcases E.l with⟨rfl,rfl⟩|⟨b,m,cs,rfl,_⟩
 ·simp only[Dr,e24];rfl
 ·simp only[Dr,e24];rfl
theorem Gi.sl(E:Gi γ L ts){p:Nat}(hp:p<ts.length):∃ b m cs,L=.sl b ts.length m cs∧Cs ts<+:cs:=by
 rcases E.l with⟨rfl,rfl⟩|⟨b,m,cs,h,h1,_⟩
 ·exact absurd hp (by simp)
 ·exact⟨b,m,cs,h,h1⟩
def RD(h:List Aa)(i:Nat)(L:AV)(p:Nat)(n:Nat):Prop:=h[i]?=some ⟨0,199,[L,.v (.int .i64 (p:Int)),.v (.int .i64 (n:Int))]⟩
theorem RD.lt{h:List Aa}{i:Nat}{L:AV}{p n:Nat}(a:RD h i L p n):i<h.length:=(Bs.1 a).1
theorem RD.fr{S:Nat→Prop}{h h1:List Aa}{i:Nat}{L:AV}{p n:Nat}(a:RD h i L p n)(f:Fr S h h1)(hS:¬S i):RD h1 i L p n:=f.at a hS
theorem RD.app{h:List Aa}{i:Nat}{L:AV}{p n:Nat}(a:RD h i L p n)(l:List Aa):RD (h++l) i L p n:=a.fr (Fr.app (S:=Cj) h l) fun h=>h
def GZ(pl e:Int):AV:=.ifc 201 (.agg [Bb pl,Bb e])
def Hy(ts:List Tk)(n q:Nat):Int:=match ts[q]? with
 |some t=>t.pos
 |none=>n
theorem c202:Al Tp 202:=⟨_,Tryz.func202,by kernel_rfl,by kernel_rfl⟩
theorem c131:Al Tp 131:=⟨_,Tryz.func131,by kernel_rfl,by kernel_rfl⟩
theorem hZ:Al Tp 128:=⟨_,Tryz.func128,by kernel_rfl,by kernel_rfl⟩
theorem c127:Al Tp 127:=⟨_,Tryz.func127,by kernel_rfl,by kernel_rfl⟩
theorem kO:Al Tp 199:=⟨_,Tryz.func199,by kernel_rfl,by kernel_rfl⟩
theorem iJ:Al Tp 129:=⟨_,Tryz.func129,by kernel_rfl,by kernel_rfl⟩
theorem gW(E:Gi γ L ts){h:List Aa}{i p n:Nat}(hp:p≤ts.length)(hr:RD h i L p n)(s:List UInt8):
  Ce Tp γ 202 [.ptr i 0 0,.v (.string ⟨s.toArray⟩)] h fun o h'=>o=.ret (.v (.bool (HJ ts p s)))∧Fr Cj h h':=by
 have hi:h[i]?=_:=hr;have g1:∀ l,(h++l)[i]?=_:=fun l=>hr.app l
 have s1:∀ x,(h++[x])[h.length]?=some x:=fun x=>by simp
 have s2:∀ x y,(h++[x]).set h.length y=h++[y]:=fun x y=>by simp
 have ll:=E.len;refine Ce.of Tryz.func202 rfl ?_
 by_cases hlt:p<ts.length
 ·obtain⟨b,m,cs,rfl,hcs⟩:=E.sl hlt;obtain⟨t,ht⟩:∃ t,ts[p]?=some t:=⟨ts[p],by simp[hlt]⟩;have h6:=Fc.take hcs ht;have h6l:6≤(cs.drop (p * 6)).length:=by have:=Fc.len hcs hlt;rw[Bd];omega
  have d1:((p:Int)==(ts.length:Int))=false:=by simp only[beq_eq_false_iff_ne,ne_eq];omega
  have hB:HJ ts p s=decide ((t.kind=5∨t.kind=1)∧t.text=s):=by unfold HJ;rw[ht]
  rw[hB];simp only[Tryz.f202,Af,seval];refine dI ?_;simp only[B4,hi,ll,d1,Af,AB,seval];refine dX ?_;simp only[B4,hi,h6,h6l,s1,s2,Tk.cells,Af,AB,seval];refine⟨hlt,?_⟩
  (repeat' (first|(with_reducible refine aI ?_ ?_)|(first|(first|refine gF ?_ ?_|refine gT ?_ ?_|refine cI ?_ ?_|refine pI ?_ ?_)<;>intro h|(refine dI ?_;have h:=trivial))<;>simp only[h,s1,Af,AB,B4,g1,hi,ll,d1,h6,h6l,s2,Tk.cells,Bv,Bf,seval]))
  all_goals first|exact Fr.app _ _|(refine congrArg Out.ret (congrArg AV.v (congrArg Value.bool ?_));rw[Bool.eq_iff_iff];simp_all;done)
 ·have hp2:p=ts.length:=by omega
  have d1:((p:Int)==(ts.length:Int))=true:=by rw[hp2];simp
  have hB:HJ ts p s=false:=by unfold HJ;rw[Bq (by omega)]
  rw[hB];simp only[Tryz.f202,Af,seval];refine dI ?_;simp only[B4,hi,ll,d1,Af,AB,seval];exact Fr.refl _ _
def Ge{α:Type}(ts:List Tk)(n:Nat)(L:AV)(i:Nat)(h:List Aa)(A:α→AV→List Aa→Prop)(r:DR α)(o:Out)(h':List Aa):Prop:=
 Fr (B8 i) h h'∧match r with
 |.ok x q=>∃ a,o=.ret a∧RD h' i L q n∧A x a h'
 |.bad q e=>o=.pan (GZ (Hy ts n q) e)
theorem Ka{α:Type}{E:AV→St→Prop}{g:FuncId}{xs:List AV}{d:Option Tmp}{K:St→Prop}{s:St}{n i:Nat}{A:α→AV→List Aa→Prop}{r:DR α}(c:Al Tp g)
  (he:Ce Tp s.s.g g xs s.h (Ge ts n L i s.h A r)) (hok:∀ x q a h1,r=.ok x q→Fr (B8 i) s.h h1→RD h1 i L q n→A x a h1→K (pt ⟨s.s,h1⟩ d a))
  (hbad:∀ q e h1,r=.bad q e→Fr (B8 i) s.h h1→E (GZ (Hy ts n q) e) ⟨s.s,h1⟩):Am Tp E g xs d K s:=by
 refine Am.intro c _ he (fun a h1 hh=>?_) (fun v h1 hh=>?_)
 ·cases r with
  |ok x q=>
   obtain⟨f,a',e,r1,hA⟩:=hh;cases e;exact hok x q _ h1 rfl f r1 hA
  |bad q e=>obtain⟨_,e⟩:=hh;cases e
 ·cases r with
  |ok x q=>obtain⟨_,a',e,_⟩:=hh;cases e
  |bad q e=>
   obtain⟨f,e⟩:=hh;cases e;exact hbad q _ h1 rfl f
theorem RD.set{h:List Aa}{i:Nat}{L:AV}{p n:Nat}(a:RD h i L p n)(q:Nat):RD (h.set i ⟨0,199,[L,.v (.int .i64 (q:Int)),.v (.int .i64 (n:Int))]⟩) i L q n:=Be a.lt
def kX(ts:List Tk)(L:AV)(i p n:Nat)(s:List UInt8)(h:List Aa)(o:Out)(h':List Aa):Prop:=
 o=.ret (.v (.bool (HJ ts p s)))∧Fr (B8 i) h h'∧RD h' i L (if HJ ts p s=true then p+1 else p) n
theorem I8(E:Gi γ L ts){h:List Aa}{i p n:Nat}(hp:p≤ts.length)(hr:RD h i L p n)(s:List UInt8):
  Ce Tp γ 131 [.ptr i 0 0,.v (.string ⟨s.toArray⟩)] h (kX ts L i p n s h):=by
 refine Ce.of Tryz.func131 rfl ?_;simp only[Tryz.f131,Af,seval];refine Am.intro c202 _ (gW E hp hr s) (fun r h1 hh=>?_) (fun v h1 hh=>by cases hh.1);obtain⟨e,f1⟩:=hh;cases e;have r1:=hr.fr f1 (fun h=>h);have h1i:h1[i]?=_:=r1;have f1':Fr (B8 i) h h1:=f1.mono fun k e=>e.elim
 cases hB:HJ ts p s with
 |true=>
  have hlt:=CW hB;have hn:=E.n;have w1:IntKind.i64.wrap ((p:Int)+1)=((p+1:Nat):Int):=(A7 (by omega) (by omega)).trans (by omega);simp only[B4,h1i,w1,Af,AB,Bv,seval];refine⟨by rw[hB],f1'.trans (Fr.set (S:=B8 i) _ rfl) fun k e=>.inl e,?_⟩;rw[hB];exact r1.set (p+1)
 |false=>
  simp only[Af,Bf,seval];refine⟨by rw[hB],f1',?_⟩;rw[hB];exact r1
theorem Oq(E:Gi γ L ts){h:List Aa}{i p n:Nat}(hr:RD h i L p n)(q:Nat):
  Ce Tp γ 199 [.ptr i 0 0,.v (.int .i64 (q:Int))] h fun o h'=>o=.ret (.v (.int .i64 (Hy ts n q)))∧h'=h:=by
 have hi:h[i]?=_:=hr;have ll:=E.len;refine Ce.of Tryz.func199 rfl ?_
 by_cases hlt:q<ts.length
 ·obtain⟨b,m,cs,rfl,hcs⟩:=E.sl hlt;obtain⟨t,ht⟩:∃ t,ts[q]?=some t:=⟨ts[q],by simp[hlt]⟩;have h6l:=Fc.len hcs hlt;have h4:cs[q * 6+4]?=_:=Fc.cell (b:=b) hcs ht (k:=4) (by decide);have d1:decide (q<ts.length)=true:=decide_eq_true hlt;have hP:Hy ts n q=t.pos:=by unfold Hy;rw[ht]
  rw[hP];simp only[Tryz.f199,B4,hi,ll,d1,h4,Tk.cells,Af,AB,seval];exact hlt
 ·have d1:decide (q<ts.length)=false:=decide_eq_false hlt;have hP:Hy ts n q=n:=by unfold Hy;rw[Bq (by omega)]
  rw[hP];simp only[Tryz.f199,B4,hi,ll,d1,Af,AB,seval]
theorem Hw(E:Gi γ L ts){h:List Aa}{i p n:Nat}(hr:RD h i L p n)(e:Int):
  Ce Tp γ 127 [.ptr i 0 0,.v (.int .i64 e)] h fun o h'=>o=.pan (GZ (Hy ts n p) e)∧h'=h:=by
 have hi:h[i]?=_:=hr;refine Ce.of Tryz.func127 rfl ?_;simp only[Tryz.f127,B4,hi,Af,AB,seval];refine Am.intro kO _ (Oq E hr p) (fun r h1 hh=>?_) (fun v h1 hh=>by cases hh.1);obtain⟨e,rfl⟩:=hh;cases e;simp only[B4,Af,seval]
 rfl
def jW(_:Unit)(a:AV)(_:List Aa):Prop:=a=.tup []
theorem MJ(E:Gi γ L ts){h:List Aa}{i p n:Nat}(hp:p≤ts.length)(hr:RD h i L p n)(s:List UInt8):
  Ce Tp γ 128 [.ptr i 0 0,.v (.string ⟨s.toArray⟩)] h (Ge ts n L i h jW (B9 ts s p)):=by
 refine Ce.of Tryz.func128 rfl ?_;simp only[Tryz.f128,Af,seval];refine Am.intro c131 _ (I8 E hp hr s) (fun r h1 hh=>?_) (fun v h1 hh=>by cases hh.1);obtain⟨e,f1,r1⟩:=hh;cases e;unfold B9;cases hB:HJ ts p s with
 |true=>
  rw[hB]at r1;simp only[Af,Bv,seval];exact⟨f1,_,rfl,r1,rfl⟩
 |false=>
  rw[hB]at r1;simp only[Af,Bf,seval];refine Am.intro c127 _ (Hw E r1 80) (fun r h2 hh=>by cases hh.1) (fun v h2 hh=>?_);obtain⟨e,rfl⟩:=hh;cases e;exact⟨f1,rfl⟩
abbrev S8:=Nat×Option (Int×Int)
variable (ts:List Tk) (n:Nat)
def Jd(s:List UInt8)(S:S8):Bool:=S.2.isNone&&HJ ts S.1 s
def FE(q:Nat)(e:Int)(S:S8):S8:=match S.2 with
 |none=>(S.1,some (e,Hy ts n q))
 |some _=>S
def Ay(s:List UInt8)(S:S8):S8:=if Jd ts s S=true then (S.1+1,none)else FE ts n S.1 80 S
def Au(S:S8):List UInt8×S8:=match S.2,ts[S.1]? with
 |none,some t=>if t.kind=1∧SC t.text=false then (t.text,(S.1+1,none))else ([],FE ts n S.1 80 S)
 |_,_=>([],FE ts n S.1 80 S)
def AU(S:S8):List Nd×S8:=match S.2 with
 |none=>if (Ci ts S.1).2.2=0 then ((Ci ts S.1).1,((Ci ts S.1).2.1.toNat,none))else ([],FE ts n (Ci ts S.1).2.1.toNat (Ci ts S.1).2.2 S)
 |some _=>([],S)
def CV(S:S8):List UInt8×S8:=if Jd ts [95] S=true then ([95],(S.1+1,none))else Au ts n S
def FD{α:Type}(I:S8→α×S8):Nat→List α→S8→List α×S8
 |0,l,S=>(l,S)
 |f+1,l,S=>if S.2.isSome=true then (l,S)else if Jd ts [41] S=true then (l,(S.1+1,none))else FD I f (l++[(I (Ay ts n [44] S)).1]) (I (Ay ts n [44] S)).2
def Gt{α:Type}(I:S8→α×S8)(S:S8):List α×S8:=
 if Jd ts [41] (Ay ts n [40] S)=true then ([],((Ay ts n [40] S).1+1,none))else FD ts n I (ts.length+1) [(I (Ay ts n [40] S)).1] (I (Ay ts n [40] S)).2
def ER(S:S8):List (List Nd)×S8:=Gt ts n (AU ts n) S
def AM(S:S8):Pt×S8:=(⟨(Au ts n S).1,(Gt ts n (CV ts n) (Au ts n S).2).1⟩,(Gt ts n (CV ts n) (Au ts n S).2).2)
def dC(S:S8):Ac×S8:=(⟨1,(AU ts n S).1,(Au ts n (AU ts n S).2).1,[],(ER ts n (Au ts n (AU ts n S).2).2).1⟩,(ER ts n (Au ts n (AU ts n S).2).2).2)
def XW(S:S8):Ac×S8:=(⟨2,[],(Au ts n S).1,(Au ts n (Ay ts n Xg (Au ts n S).2)).1,[]⟩,(Au ts n (Ay ts n Xg (Au ts n S).2)).2)
def Yy(S:S8):Ac×S8:=(⟨3,[],[],[],(ER ts n S).1⟩,(ER ts n S).2)
def UJ(S:S8):Ac×S8:=(⟨4,[],(Au ts n S).1,[],[]⟩,(Au ts n S).2)
def GA(S:S8):Ac×S8:=
 if Jd ts Kv S=true then dC ts n (S.1+1,none)else if Jd ts HZ S=true then XW ts n (S.1+1,none)
 else if Jd ts Ib S=true then Yy ts n (S.1+1,none)else if Jd ts Gf S=true then UJ ts n (S.1+1,none)else (⟨0,[],[],[],[]⟩,FE ts n S.1 80 S)
def DV(S:S8):Ac×S8:=((GA ts n S).1,Ay ts n [59] (GA ts n S).2)
def CT:Nat→List Ac→S8→List Ac×S8
 |0,l,S=>(l,S)
 |f+1,l,S=>if S.2.isSome=true then (l,S)else if Jd ts [125] S=true then (l,(S.1+1,none))else CT f (l++[(DV ts n S).1]) (DV ts n S).2
def Cr:Nat→List Pt→S8→List Pt×S8
 |0,l,S=>(l,S)
 |f+1,l,S=>if Jd ts [38] S=true then Cr f (l++[(AM ts n (S.1+1,none)).1]) (AM ts n (S.1+1,none)).2 else (l,S)
def Dj(S:S8):List Nd×S8:=if Jd ts K6 S=true then AU ts n (S.1+1,none)else ([],S)
def J3(S:S8):Ch×S8:=
 let w:=Au ts n (Ay ts n HS S)
 let p:=AM ts n (Ay ts n [58] w.2)
 let l:=Cr ts n (ts.length+1) [p.1] p.2
 let g:=Dj ts n l.2
 let b:=CT ts n (ts.length+1) [] (Ay ts n [123] g.2)
 (⟨w.1,l.1,g.1,b.1⟩,b.2)
variable {ts n}
def FB{α:Type}(ts:List Tk)(n:Nat)(D:DR α)(r:α×S8):Prop:=match D with
 |.ok x q=>r=(x,(q,none))
 |.bad q e=>r.2.2=some (e,Hy ts n q)
theorem CY{s:List UInt8}{p:Nat}:Jd ts s (p,none)=HJ ts p s:=by simp[Jd]
theorem FC{s:List UInt8}{p:Nat}{b:Int×Int}:Jd ts s (p,some b)=false:=by simp[Jd]
theorem N8{q p:Nat}{e:Int}{b:Int×Int}:FE ts n q e (p,some b)=(p,some b):=rfl
theorem Dq{s:List UInt8}{p:Nat}{b:Int×Int}:Ay ts n s (p,some b)=(p,some b):=by simp[Ay,FC,N8]
theorem DJ{p:Nat}{b:Int×Int}:Au ts n (p,some b)=([],(p,some b)):=by simp[Au,N8]
theorem JG{p:Nat}{b:Int×Int}:AU ts n (p,some b)=([],(p,some b)):=by simp[AU]
theorem VB{p:Nat}{b:Int×Int}:CV ts n (p,some b)=([],(p,some b)):=by simp[CV,FC,DJ]
theorem Di{α:Type}{I:S8→α×S8}(f:Nat)(l:List α){p:Nat}{b:Int×Int}:FD ts n I f l (p,some b)=(l,(p,some b)):=by cases f<;>simp[FD]
theorem HM{α:Type}{I:S8→α×S8}(hI:∀ p b,(I (p,some b)).2=(p,some b)){p:Nat}{b:Int×Int}:(Gt ts n I (p,some b)).2=(p,some b):=by
 simp only[Gt,Dq,FC,Bool.false_eq_true,if_false,hI,Di]
theorem IL{s:List UInt8}{p:Nat}:FB ts n (B9 ts s p) ((),Ay ts n s (p,none)):=by
 unfold B9 Ay;rw[CY]
 split<;>simp[FB,FE]
theorem GQ{p:Nat}:FB ts n (EF ts p) (Au ts n (p,none)):=by
 unfold EF Au;cases e:ts[p]? with
 |none=>simp[FB,FE]
 |some t=>simp only[];split<;>simp[FB,FE]
theorem Mk{p:Nat}:FB ts n (FO ts p) (AU ts n (p,none)):=by
 unfold FO AU;simp only[]
 split<;>simp[FB,FE]
theorem Z4{p:Nat}:FB ts n (P6 ts p) (CV ts n (p,none)):=by
 unfold P6 CV;rw[CY]
 split
 ·simp[FB]
 ·exact GQ
theorem RO{α:Type}{D:Nat→DR α}{I:S8→α×S8}(hI:∀ p,FB ts n (D p) (I (p,none)))(hS:∀ p b,(I (p,some b)).2=(p,some b)):∀ (f:Nat) (l:List α) (p:Nat),ts.length<f+p→p≤ts.length→
  (∀ p,p≤ts.length→(D p).adv ts p 1)→FB ts n (Gb ts D f l p) (FD ts n I f l (p,none))
 |0,l,p,h,h2,_=>by omega
 |f+1,l,p,h,h2,hA=>by
  rw[Gb,FD];simp only[Option.isSome_none,Bool.false_eq_true,if_false,CY]
  split
  ·simp[FB]
  ·split
   ·rename_i hB;have hw:Ay ts n [44] (p,none)=(p+1,none):=by unfold Ay;rw[CY,if_pos hB]
    rw[hw];have hlt:=CW hB;have k:=hI (p+1);have ka:=hA (p+1) hlt;cases e:D (p+1)with
    |ok x q=>
     rw[e]at k ka;have k:I (p+1,none)=(x,(q,none)):=k;rw[k];exact RO hI hS f _ q (by have:=ka.1;omega) ka.2 hA
    |bad q e'=>
     rw[e]at k;have k:(I (p+1,none)).2.2=some (e',Hy ts n q):=k;obtain⟨p',b,e2⟩:∃ p' b,(I (p+1,none)).2=(p',some b):=⟨_,_,Prod.ext rfl k⟩;rw[e2,Di];rw[e2]at k;exact k
   ·rename_i hB;have hw:Ay ts n [44] (p,none)=(p,some (80,Hy ts n p)):=by unfold Ay;rw[CY,if_neg hB];rfl
    rw[hw,hS,Di];simp[FB]
theorem Sh{α:Type}{D:Nat→DR α}{I:S8→α×S8}(hI:∀ p,FB ts n (D p) (I (p,none)))(hS:∀ p b,(I (p,some b)).2=(p,some b))(hA:∀ p,p≤ts.length→(D p).adv ts p 1){p:Nat}(hp:p≤ts.length):FB ts n (Hj ts D p) (Gt ts n I (p,none)):=by
 unfold Hj Gt B9;cases hB:HJ ts p [40]with
 |false=>
  have hw:Ay ts n [40] (p,none)=(p,some (80,Hy ts n p)):=by unfold Ay;rw[CY,if_neg (by rw[hB];decide)];rfl
  rw[hw,FC,if_neg (by decide),hS,Di];simp[FB,DR.bind]
 |true=>
  have hw:Ay ts n [40] (p,none)=(p+1,none):=by unfold Ay;rw[CY,if_pos hB]
  have hlt:=CW hB;rw[hw,CY,if_pos rfl];simp only[DR.bind]
  split
  ·simp[FB]
  ·have k:=hI (p+1);have ka:=hA (p+1) hlt;cases e:D (p+1)with
   |ok x q=>
    rw[e]at k ka;have k:I (p+1,none)=(x,(q,none)):=k;rw[k];exact RO hI hS _ _ q (by omega) ka.2 hA
   |bad q e'=>
    rw[e]at k;have k:(I (p+1,none)).2.2=some (e',Hy ts n q):=k;obtain⟨p',b,e2⟩:∃ p' b,(I (p+1,none)).2=(p',some b):=⟨_,_,Prod.ext rfl k⟩;rw[e2,Di];rw[e2]at k;exact k
def RC{α:Type}(F:S8→α×S8):Prop:=∀ p b,(F (p,some b)).2=(p,some b)
theorem UF:RC (AU ts n):=fun p b=>by rw[JG]
theorem Ql:RC (CV ts n):=fun p b=>by rw[VB]
theorem PL:RC (ER ts n):=fun p b=>HM UF
theorem Q0:RC (AM ts n):=fun p b=>by simp only[AM,DJ,HM Ql]
theorem Dz(f:Nat)(l:List Ac)(p:Nat)(b:Int×Int):CT ts n f l (p,some b)=(l,(p,some b)):=by cases f<;>simp[CT]
theorem GH(f:Nat)(l:List Pt)(p:Nat)(b:Int×Int):Cr ts n f l (p,some b)=(l,(p,some b)):=by cases f<;>simp[Cr,FC]
theorem GK(p:Nat)(b:Int×Int):Dj ts n (p,some b)=([],(p,some b)):=by simp[Dj,FC]
variable {ts:List Tk} {n:Nat}
theorem FB.bind{α β:Type}{D:DR α}{r:α×S8}(h:FB ts n D r){F:α→Nat→DR β}{G:α→S8→β×S8}(hG:∀ x q,D=.ok x q→FB ts n (F x q) (G x (q,none)))(hst:∀ x p b,(G x (p,some b)).2=(p,some b)):
  FB ts n (D.bind F) (G r.1 r.2):=by
 cases D with
 |ok x q=>
  have h:r=(x,(q,none)):=h;rw[h];exact hG x q rfl
 |bad q e=>
  have h:r.2.2=some (e,Hy ts n q):=h;obtain⟨p',b,e2⟩:∃ p' b,r.2=(p',some b):=⟨_,_,Prod.ext rfl h⟩;show (G r.1 r.2).2.2=_;rw[e2]at h⊢;rw[hst];exact h
theorem Q8{p:Nat}(hp:p≤ts.length):FB ts n (EN ts p) (AM ts n (p,none)):=by
 refine FB.bind (G:=fun nm S1=>((⟨nm,(Gt ts n (CV ts n) S1).1⟩:Pt),(Gt ts n (CV ts n) S1).2)) GQ (fun nm p1 e=>?_) (fun x p b=>by simp only[HM Ql]);have a1:=DP hp;rw[e]at a1;exact FB.bind (G:=fun l S2=>((⟨nm,l⟩:Pt),S2)) (Sh (fun _=>Z4) Ql (fun _=>Qd) a1.2) (fun l p2 e2=>rfl) (fun x p b=>rfl)
theorem R9{p:Nat}(hp:p≤ts.length):FB ts n (L1 ts p) (ER ts n (p,none)):=Sh (fun _=>Mk) UF (fun _=>GR) hp
theorem Xo{p:Nat}(hp:p≤ts.length):FB ts n (Es ts p) (GA ts n (p,none)):=by
 unfold Es GA;simp only[CY]
 split
 ·rename_i h;have hl:=CW h;refine FB.bind (G:=fun x S1=>((⟨1,x,(Au ts n S1).1,[],(ER ts n (Au ts n S1).2).1⟩:Ac),(ER ts n (Au ts n S1).2).2)) Mk (fun x p1 e=>?_) (fun x p b=>by simp only[DJ,PL p b]);have a1:=GR hl;rw[e]at a1;refine FB.bind (G:=fun nm S1=>((⟨1,x,nm,[],(ER ts n S1).1⟩:Ac),(ER ts n S1).2)) GQ (fun nm p2 e=>?_) (fun x p b=>by simp only[PL p b]);have a2:=DP a1.2;rw[e]at a2;exact FB.bind (G:=fun l S1=>((⟨1,x,nm,[],l⟩:Ac),S1)) (R9 a2.2) (fun l p3 e=>rfl) (fun x p b=>rfl)
 split
 ·refine FB.bind (G:=fun nm S1=>((⟨2,[],nm,(Au ts n (Ay ts n Xg S1)).1,[]⟩:Ac),(Au ts n (Ay ts n Xg S1)).2)) GQ (fun nm p1 e=>?_) (fun x p b=>by simp only[Dq,DJ]);refine FB.bind (G:=fun _ S1=>((⟨2,[],nm,(Au ts n S1).1,[]⟩:Ac),(Au ts n S1).2)) (IL (s:=Xg) (p:=p1)) (fun _ p2 e=>?_) (fun x p b=>by simp only[DJ]);exact FB.bind (G:=fun v S1=>((⟨2,[],nm,v,[]⟩:Ac),S1)) GQ (fun v p3 e=>rfl) (fun x p b=>rfl)
 split
 ·rename_i h;exact FB.bind (G:=fun l S1=>((⟨3,[],[],[],l⟩:Ac),S1)) (R9 (CW h)) (fun l p3 e=>rfl) (fun x p b=>rfl)
 split
 ·exact FB.bind (G:=fun nm S1=>((⟨4,[],nm,[],[]⟩:Ac),S1)) GQ (fun l p3 e=>rfl) (fun x p b=>rfl)
 ·simp[FB,FE]
theorem Sc:∀ (f:Nat) (l:List Ac) (p:Nat),ts.length<f+p→p≤ts.length→FB ts n (D7 ts f l p) (CT ts n f l (p,none))
 |0,l,p,h,h2=>by omega
 |f+1,l,p,h,h2=>by
  rw[D7,CT];simp only[Option.isSome_none,Bool.false_eq_true,if_false,CY]
  split
  ·simp[FB]
  ·have a1:=Uw h2;refine FB.bind (G:=fun a S1=>CT ts n f (l++[a]) (Ay ts n [59] S1)) (Xo h2) (fun a p1 e=>?_) (fun x p b=>by rw[Dq,Dz]);rw[e]at a1;refine FB.bind (G:=fun _ S1=>CT ts n f (l++[a]) S1) (IL (s:=[59]) (p:=p1)) (fun _ p2 e2=>?_) (fun x p b=>by rw[Dz]);have a2:=Ea a1.2 [59];rw[e2]at a2;exact Sc f _ p2 (by have:=a1.1;have:=a2.1;omega) a2.2
theorem OJ:∀ (f:Nat) (l:List Pt) (p:Nat),ts.length<f+p→p≤ts.length→FB ts n (Dl ts f l p) (Cr ts n f l (p,none))
 |0,l,p,h,h2=>by omega
 |f+1,l,p,h,h2=>by
  rw[Dl,Cr];simp only[CY]
  split
  ·rename_i hB;have hl:=CW hB;have a1:=Hp hl;refine FB.bind (G:=fun a S1=>Cr ts n f (l++[a]) S1) (Q8 hl) (fun a p1 e=>?_) (fun x p b=>by rw[GH]);rw[e]at a1;exact OJ f _ p1 (by have:=a1.1;omega) a1.2
  ·simp[FB]
theorem Ws{p:Nat}:FB ts n (D0 ts p) (Dj ts n (p,none)):=by
 unfold D0 Dj;rw[CY]
 split
 ·exact Mk
 ·simp[FB]
theorem Ww{p:Nat}(hp:p≤ts.length):FB ts n (EV ts p) (J3 ts n (p,none)):=by
 unfold EV;refine FB.bind (G:=fun _ S=>((⟨(Au ts n S).1,(Cr ts n (ts.length+1) [(AM ts n (Ay ts n [58] (Au ts n S).2)).1] (AM ts n (Ay ts n [58] (Au ts n S).2)).2).1,(Dj ts n (Cr ts n (ts.length+1) [(AM ts n (Ay ts n [58] (Au ts n S).2)).1] (AM ts n (Ay ts n [58] (Au ts n S).2)).2).2).1,(CT ts n (ts.length+1) [] (Ay ts n [123] (Dj ts n (Cr ts n (ts.length+1) [(AM ts n (Ay ts n [58] (Au ts n S).2)).1] (AM ts n (Ay ts n [58] (Au ts n S).2)).2).2).2)).1⟩:Ch),(CT ts n (ts.length+1) [] (Ay ts n [123] (Dj ts n (Cr ts n (ts.length+1) [(AM ts n (Ay ts n [58] (Au ts n S).2)).1] (AM ts n (Ay ts n [58] (Au ts n S).2)).2).2).2)).2)) (IL (s:=HS) (p:=p)) (fun _ p1 e1=>?_) (fun x p b=>by simp only[DJ,Dq,Q0 p b,GH,GK,Dz]);have a1:=Ea hp HS;rw[e1]at a1;refine FB.bind (G:=fun w S=>((⟨w,(Cr ts n (ts.length+1) [(AM ts n (Ay ts n [58] S)).1] (AM ts n (Ay ts n [58] S)).2).1,(Dj ts n (Cr ts n (ts.length+1) [(AM ts n (Ay ts n [58] S)).1] (AM ts n (Ay ts n [58] S)).2).2).1,(CT ts n (ts.length+1) [] (Ay ts n [123] (Dj ts n (Cr ts n (ts.length+1) [(AM ts n (Ay ts n [58] S)).1] (AM ts n (Ay ts n [58] S)).2).2).2)).1⟩:Ch),(CT ts n (ts.length+1) [] (Ay ts n [123] (Dj ts n (Cr ts n (ts.length+1) [(AM ts n (Ay ts n [58] S)).1] (AM ts n (Ay ts n [58] S)).2).2).2)).2)) GQ (fun w p2 e2=>?_) (fun x p b=>by simp only[Dq,Q0 p b,GH,GK,Dz]);have a2:=DP a1.2;rw[e2]at a2;refine FB.bind (G:=fun _ S=>((⟨w,(Cr ts n (ts.length+1) [(AM ts n S).1] (AM ts n S).2).1,(Dj ts n (Cr ts n (ts.length+1) [(AM ts n S).1] (AM ts n S).2).2).1,(CT ts n (ts.length+1) [] (Ay ts n [123] (Dj ts n (Cr ts n (ts.length+1) [(AM ts n S).1] (AM ts n S).2).2).2)).1⟩:Ch),(CT ts n (ts.length+1) [] (Ay ts n [123] (Dj ts n (Cr ts n (ts.length+1) [(AM ts n S).1] (AM ts n S).2).2).2)).2)) (IL (s:=[58]) (p:=p2)) (fun _ p3 e3=>?_) (fun x p b=>by simp only[Dq,Q0 p b,GH,GK,Dz]);have a3:=Ea a2.2 [58];rw[e3]at a3;refine FB.bind (G:=fun pt S=>((⟨w,(Cr ts n (ts.length+1) [pt] S).1,(Dj ts n (Cr ts n (ts.length+1) [pt] S).2).1,(CT ts n (ts.length+1) [] (Ay ts n [123] (Dj ts n (Cr ts n (ts.length+1) [pt] S).2).2)).1⟩:Ch),(CT ts n (ts.length+1) [] (Ay ts n [123] (Dj ts n (Cr ts n (ts.length+1) [pt] S).2).2)).2)) (Q8 a3.2) (fun pt p4 e4=>?_) (fun x p b=>by simp only[Dq,GH,GK,Dz]);have a4:=Hp a3.2;rw[e4]at a4;refine FB.bind (G:=fun l S=>((⟨w,l,(Dj ts n S).1,(CT ts n (ts.length+1) [] (Ay ts n [123] (Dj ts n S).2)).1⟩:Ch),(CT ts n (ts.length+1) [] (Ay ts n [123] (Dj ts n S).2)).2)) (OJ _ _ p4 (by omega) a4.2) (fun l p5 e5=>?_) (fun x p b=>by simp only[Dq,GK,Dz]);refine FB.bind (G:=fun g S=>((⟨w,l,g,(CT ts n (ts.length+1) [] (Ay ts n [123] S)).1⟩:Ch),(CT ts n (ts.length+1) [] (Ay ts n [123] S)).2)) Ws (fun g p6 e6=>?_) (fun x p b=>by simp only[Dq,Dz]);have a5:=KB (ts:=ts) (ts.length+1) [pt] p4 a4.2;rw[e5]at a5;have a6:=Om a5.2;rw[e6]at a6;unfold DX
 have hbody:FB ts n ((B9 ts [123] p6).bind fun _ p1=>D7 ts (ts.length+1) [] p1) (CT ts n (ts.length+1) [] (Ay ts n [123] (p6,none))):=by
  refine FB.bind (G:=fun _ S=>CT ts n (ts.length+1) [] S) (IL (s:=[123]) (p:=p6)) (fun _ p7 e7=>?_) (fun x p b=>by rw[Dz]);have a7:=Ea a6.2 [123];rw[e7]at a7;exact Sc _ _ p7 (by omega) a7.2
 exact FB.bind (G:=fun b S=>((⟨w,l,g,b⟩:Ch),S)) hbody (fun b p7 e7=>rfl) (fun x p b=>rfl)
theorem Cv:AW Tp 47=some false∧
  AW Tp 57=some false∧
  A5 Tp 128=some 9∧
  A5 Tp 47=some 54∧
  Ak Tp 123 0=some (0,47)∧
  Ak Tp 123 1=some (1,3)∧
  Ak Tp 123 2=some (2,3)∧
  Ak Tp 123 3=some (3,3)∧
  Ak Tp 123 4=some (4,3)∧
  Ak Tp 135 0=some (0,3)∧
  Ak Tp 135 1=some (1,41)∧
  Ak Tp 54 0=some (0,3)∧
  Ak Tp 54 1=some (1,9)∧
  Ak Tp 54 4=some (4,3)∧
  BR Tp 123=some [(0,1),(1,1),(2,1),(3,1),(4,1)]∧
  BR Tp 41=some [(0,1)]∧
  BR Tp 71=some [(0,1),(1,1)]∧
  Ap Tp 47=some 1∧
  Ap Tp 54=some 6∧
  Hm Tp 123=some [.v (.slice none 0 0),.v (.int .i64 0),.v (.int .i64 0),.v (.int .i64 0),.v (.int .i64 0)]:=
 (by and_intros<;>kernel_rfl)
structure IU(L:AV)(ts:List Tk):Prop where
 l:Fc L ts
 ok:∀ t∈ts,Qo t
 n:ts.length≤2000000
theorem IU.len(E:IU L ts)(s:List Aa):Dr Tp 47 s L=some (.v (.int .i64 ts.length)):=by
 have e24:A5 Tp 47=some 54:=by kernel_rfl
 rcases E.l with⟨rfl,rfl⟩|⟨b,m,cs,rfl,_⟩
 ·simp only[Dr,e24];rfl
 ·simp only[Dr,e24];rfl
theorem IU.sl(E:IU L ts){p:Nat}(hp:p<ts.length):∃ b m cs,L=.sl b ts.length m cs∧Cs ts<+:cs:=by
 rcases E.l with⟨rfl,rfl⟩|⟨b,m,cs,h,h1⟩
 ·exact absurd hp (by simp)
 ·exact⟨b,m,cs,h,h1⟩
def E5:Option (Int×Int)→Int
 |none=>0
 |some b=>b.1
def inQ:Option (Int×Int)→Int
 |none=>0
 |some b=>b.2
def cQ(L:AV)(n:Nat)(S:S8):List AV:=[L,.v (.int .i64 (S.1:Int)),.v (.int .i64 (n:Int)),.v (.int .i64 (E5 S.2)),.v (.int .i64 (inQ S.2))]
def E0(ts:List Tk)(S:S8):Prop:=S.1≤ts.length∧∀ b,S.2=some b→b.1≠0
def RQ(ts:List Tk)(h:List Aa)(i:Nat)(L:AV)(n:Nat)(S:S8):Prop:=h[i]?=some ⟨0,123,cQ L n S⟩∧E0 ts S
theorem RQ.lt{h:List Aa}{i n:Nat}{S:S8}(a:RQ ts h i L n S):i<h.length:=(Bs.1 a.1).1
theorem RQ.fr{F:Nat→Prop}{h h1:List Aa}{i n:Nat}{S:S8}(a:RQ ts h i L n S)(f:Fr F h h1)(hS:¬F i):RQ ts h1 i L n S:=⟨f.at a.1 hS,a.2⟩
theorem RQ.app{h:List Aa}{i n:Nat}{S:S8}(a:RQ ts h i L n S)(l:List Aa):RQ ts (h++l) i L n S:=a.fr (Fr.app (S:=Cj) h l) fun h=>h
theorem E0.bad{S:S8}(a:E0 ts S):(E5 S.2==0)=S.2.isNone:=by
 obtain⟨p,b⟩:=S;cases b with
 |none=>rfl
 |some b=>have:=a.2 b rfl;simpa[E5]using this
theorem E0.bad2{S:S8}(a:E0 ts S):(E5 S.2 != 0)=S.2.isSome:=by
 have:=a.bad;rw[bne,this];cases S.2<;>rfl
theorem c134:Al Tp 134:=⟨_,Tryz.func134,by kernel_rfl,by kernel_rfl⟩
theorem UR:Al Tp 77:=⟨_,Tryz.func77,by kernel_rfl,by kernel_rfl⟩
theorem Vc:Al Tp 79:=⟨_,Tryz.func79,by kernel_rfl,by kernel_rfl⟩
theorem c70:Al Tp 70:=⟨_,Tryz.func70,by kernel_rfl,by kernel_rfl⟩
theorem c125:Al Tp 125:=⟨_,Tryz.func125,by kernel_rfl,by kernel_rfl⟩
theorem gJ(E:IU L ts){h:List Aa}{i n:Nat}{S:S8}(hr:RQ ts h i L n S)(s:List UInt8):
  Ce Tp γ 134 [.ptr i 0 0,.v (.string ⟨s.toArray⟩)] h fun o h'=>o=.ret (.v (.bool (Jd ts s S)))∧h'=h:=by
 obtain⟨hi,hS⟩:=hr;obtain⟨p,bd⟩:=S;have ll:=E.len;have hbd:=hS.bad;refine Ce.of Tryz.func134 rfl ?_;cases bd with
 |some b=>
  have hQ:Jd ts s (p,some b)=false:=FC;have hb:(E5 (some b)==0)=false:=hbd;rw[hQ];simp only[Tryz.f134,Af,seval];refine dI ?_;simp only[Cv,hi,cQ,hb,Af,AB,seval]
 |none=>
  have hb:(E5 none==0)=true:=rfl;rw[CY]
  by_cases hlt:p<ts.length
  ·obtain⟨b,m,cs,rfl,hcs⟩:=E.sl hlt;obtain⟨t,ht⟩:∃ t,ts[p]?=some t:=⟨ts[p],by simp[hlt]⟩;have h6l:=Fc.len hcs hlt;have h0:cs[p * 6]?=some (.v (.int .i64 t.kind)):=Fc.cell (b:=b) hcs ht (k:=0) (by decide);have h1:cs[p * 6+1]?=_:=Fc.cell (b:=b) hcs ht (k:=1) (by decide);have d1:decide (p<ts.length)=true:=decide_eq_true hlt
   have hB:HJ ts p s=((t.kind==1 || t.kind==5)&&t.text==s):=by
    unfold HJ;rw[ht,Bool.eq_iff_iff];simp only[decide_eq_true_eq,Bool.and_eq_true,Bool.or_eq_true,beq_iff_eq]
    constructor
    ·rintro⟨h,h2⟩;exact⟨h.symm,h2⟩
    ·rintro⟨h,h2⟩;exact⟨h.symm,h2⟩
   rw[hB];simp only[Tryz.f134,Af,seval];refine dI ?_;cases k1:t.kind==1 with
   |true=>
    simp only[Cv,hi,cQ,ll,hb,d1,h0,h1,k1,Tk.cells,Af,AB,seval];exact hlt
   |false=>
    cases k5:t.kind==5 with
    |true=>
     simp only[Cv,hi,cQ,ll,hb,d1,h0,h1,k1,k5,Tk.cells,Af,AB,seval];exact hlt
    |false=>
     simp only[Cv,hi,cQ,ll,hb,d1,h0,k1,k5,Af,AB,seval];exact⟨hlt,hlt,rfl⟩
  ·have d1:decide (p<ts.length)=false:=decide_eq_false hlt;have hB:HJ ts p s=false:=by unfold HJ;rw[Bq (by omega)]
   rw[hB];simp only[Tryz.f134,Af,seval];refine dI ?_;simp only[Cv,hi,cQ,ll,hb,d1,Af,AB,seval]
theorem Vr(E:IU L ts){h:List Aa}{i n:Nat}{S:S8}(hr:RQ ts h i L n S)(q:Nat):
  Ce Tp γ 125 [.ptr i 0 0,.v (.int .i64 (q:Int))] h fun o h'=>o=.ret (.v (.int .i64 (Hy ts n q)))∧h'=h:=by
 obtain⟨hi,hS⟩:=hr;have ll:=E.len;refine Ce.of Tryz.func125 rfl ?_
 by_cases hlt:q<ts.length
 ·obtain⟨b,m,cs,rfl,hcs⟩:=E.sl hlt;obtain⟨t,ht⟩:∃ t,ts[q]?=some t:=⟨ts[q],by simp[hlt]⟩;have h6l:=Fc.len hcs hlt;have h4:cs[q * 6+4]?=_:=Fc.cell (b:=b) hcs ht (k:=4) (by decide);have d1:decide (q<ts.length)=true:=decide_eq_true hlt;have hP:Hy ts n q=t.pos:=by unfold Hy;rw[ht]
  rw[hP];simp only[Tryz.f125,Cv,hi,cQ,ll,d1,h4,Tk.cells,Af,AB,seval];exact hlt
 ·have d1:decide (q<ts.length)=false:=decide_eq_false hlt;have hP:Hy ts n q=n:=by unfold Hy;rw[Bq (by omega)]
  rw[hP];simp only[Tryz.f125,Cv,hi,cQ,ll,d1,Af,AB,seval]
theorem IP(E:IU L ts){h:List Aa}{i n:Nat}{S:S8}(hr:RQ ts h i L n S)(q:Nat)(e:Int)(he:e≠0):
  Ce Tp γ 70 [.ptr i 0 0,.v (.int .i64 (q:Int)),.v (.int .i64 e)] h fun o h'=>o=.ret (.tup [])∧Fr (B8 i) h h'∧RQ ts h' i L n (FE ts n q e S):=by
 have hr0:=hr;obtain⟨hi,hS⟩:=hr;obtain⟨p,bd⟩:=S;have hbd:=hS.bad;have hl:=(Bs.1 hi).1;refine Ce.of Tryz.func70 rfl ?_;cases bd with
 |some b=>
  have hb:(E5 (some b)==0)=false:=hbd;simp only[Tryz.f70,Cv,hi,cQ,hb,Af,AB,seval];exact⟨Fr.refl _ _,hi,hS⟩
 |none=>
  have hb:(E5 none==0)=true:=rfl;have s3:∀ c,(h.set i c)[i]?=some c:=fun c=>Be hl
  simp only[Tryz.f70,Cv,hi,cQ,hb,Af,AB,seval];have hpl:Ce Tp γ 125 [.ptr i 0 0,.v (.int .i64 (q:Int))] (h.set i ⟨0,123,cQ L n (p,some (e,0))⟩) fun o h'=>o=.ret (.v (.int .i64 (Hy ts n q)))∧h'=_:=Vr E (S:=(p,some (e,0))) ⟨s3 _,hS.1,fun b hb=>by cases hb;exact he⟩ q
  refine Am.intro c125 _ hpl (fun r h1 hh=>?_) (fun v h1 hh=>by cases hh.1);obtain⟨eo,rfl⟩:=hh;cases eo;simp only[Cv,s3,cQ,Af,AB,seval];rw[List.set_set];exact⟨Fr.set _ rfl,Be hl,hS.1,fun b hb=>by cases hb;exact he⟩
def R5(ts:List Tk)(n:Nat)(L:AV)(i:Nat)(h:List Aa)(v:AV)(S:S8)(o:Out)(h':List Aa):Prop:=o=.ret v∧Fr (B8 i) h h'∧RQ ts h' i L n S
theorem Cm{F:AV→St→Prop}{g:FuncId}{xs:List AV}{d:Option Tmp}{K:St→Prop}{s:St}{i n:Nat}{S:S8}{v:AV}(c:Al Tp g)(he:Ce Tp s.s.g g xs s.h (R5 ts n L i s.h v S))
  (k:∀ h1,Fr (B8 i) s.h h1→RQ ts h1 i L n S→K (pt ⟨s.s,h1⟩ d v)):Am Tp F g xs d K s:=by
 refine Am.intro c _ he (fun a h1 hh=>?_) (fun v h1 hh=>by cases hh.1);obtain⟨e,f,r⟩:=hh;cases e;exact k h1 f r
def AN(ts:List Tk)(s:List UInt8)(S:S8):S8:=if Jd ts s S=true then (S.1+1,none)else S
theorem Ft{s:List UInt8}{S:S8}(h:Jd ts s S=true):S.1<ts.length∧S.2=none:=by
 obtain⟨p,b⟩:=S;cases b with
 |some b=>rw[FC]at h;cases h
 |none=>rw[CY]at h;exact⟨CW h,rfl⟩
theorem Dg(E:IU L ts){h:List Aa}{i n:Nat}{S:S8}(hr:RQ ts h i L n S)(s:List UInt8):
  Ce Tp γ 77 [.ptr i 0 0,.v (.string ⟨s.toArray⟩)] h (R5 ts n L i h (.v (.bool (Jd ts s S))) (AN ts s S)):=by
 have hr0:=hr;obtain⟨hi,hS⟩:=hr;refine Ce.of Tryz.func77 rfl ?_;simp only[Tryz.f77,Af,seval];refine Am.intro c134 _ (gJ E hr0 s) (fun r h1 hh=>?_) (fun v h1 hh=>by cases hh.1);obtain⟨e,rfl⟩:=hh;cases e;cases hB:Jd ts s S with
 |true=>
  obtain⟨hlt,hb⟩:=Ft hB;have hT:AN ts s S=(S.1+1,none):=by unfold AN;rw[if_pos hB]
  have hn:=E.n;have w1:IntKind.i64.wrap ((S.1:Int)+1)=((S.1+1:Nat):Int):=(A7 (by omega) (by omega)).trans (by omega);rw[hT];simp only[Cv,hi,cQ,w1,Af,AB,Bv,seval];refine⟨rfl,Fr.set _ rfl,?_,hlt,fun b hb=>by cases hb⟩;rw[hb];exact Be hr0.lt
 |false=>
  have hT:AN ts s S=S:=by unfold AN;rw[if_neg (by rw[hB];decide)]
  rw[hT];simp only[Af,Bf,seval];exact⟨rfl,Fr.refl _ _,hr0⟩
theorem Dc(E:IU L ts){h:List Aa}{i n:Nat}{S:S8}(hr:RQ ts h i L n S)(s:List UInt8):
  Ce Tp γ 79 [.ptr i 0 0,.v (.string ⟨s.toArray⟩)] h (R5 ts n L i h (.tup []) (Ay ts n s S)):=by
 refine Ce.of Tryz.func79 rfl ?_;simp only[Tryz.f79,Af,seval];refine Cm UR (Dg E hr s) (fun h1 f1 r1=>?_);unfold Ay;cases hB:Jd ts s S with
 |true=>
  have hT:AN ts s S=(S.1+1,none):=by unfold AN;rw[if_pos hB]
  rw[hT]at r1;rw[if_pos rfl];simp only[Af,Bv,seval];exact⟨rfl,f1,r1⟩
 |false=>
  have hT:AN ts s S=S:=by unfold AN;rw[if_neg (by rw[hB];decide)]
  rw[hT]at r1;rw[if_neg (by decide)];have r1':=r1.1;simp only[Cv,r1',cQ,Af,AB,Bf,seval];refine Am.intro c70 _ (IP E r1 S.1 80 (by decide)) (fun r h2 hh=>?_) (fun v h1 hh=>by cases hh.1);obtain⟨e,f2,r2⟩:=hh;cases e;simp only[Af,seval];exact⟨rfl,f1.trans f2 fun k e=>.inl e,r2⟩
end Go.Proofs.YtlobiioioicmhaaGreatDoor
