/- A part of the proof. -/
import Derived.Test.YtlobiioioicmhaaGreatDoorCQ11
set_option linter.all false
set_option maxHeartbeats 8000000
namespace Go.Proofs.YtlobiioioicmhaaGreatDoor
open _root_.Bool renaming not_true→Bv,not_false→Bf
open _root_.List renaming getElem?_eq_some_iff→Bs,getElem?_set_self→Be,length_append→Bp,cons_append→Bc,getElem?_eq_none→Bq,length_drop→Bd,length_take→Bh,prefix_rfl→BB
open _root_.Nat renaming le_refl→BL,le_trans→BM,lt_of_lt_of_le→BO
open Go.Proofs.Tryz renaming prog→Tp
open Go Go.Ev
structure Pt where
 tag:List UInt8
 vars:List (List UInt8)
structure Ac where
 kind:Int
 to:List Nd
 name:List UInt8
 var:List UInt8
 args:List (List Nd)
structure Ch where
 name:List UInt8
 parts:List Pt
 guard:List Nd
 body:List Ac
structure Tg where
 name:List UInt8
 types:List Int
structure Kd where
 name:List UInt8
 chords:List Ch
structure Pg where
 tags:List Tg
 kinds:List Kd
def IP(n:Nat)(cs:List AV):AV:=match n with
 |0=>.v (.slice none 0 0)
 |_+1=>.sl false n n cs
def Ae(s:List UInt8):AV:=.v (.string ⟨s.toArray⟩)
def GZ(l:List (List UInt8)):AV:=IP l.length (l.map Ae)
def AA(k:Int):AV:=.v (.int .i64 k)
def Ml(l:List Int):AV:=IP l.length (l.map AA)
def E3(l:List (List Nd)):AV:=IP l.length (l.map Ab)
def Pt.cells(p:Pt):List AV:=[Ae p.tag,GZ p.vars]
def Ib(l:List Pt):AV:=IP l.length (l.flatMap Pt.cells)
def Ac.cells(a:Ac):List AV:=[AA a.kind,Ab a.to,Ae a.name,Ae a.var,E3 a.args]
def JV(l:List Ac):AV:=IP l.length (l.flatMap Ac.cells)
def Ch.cells(c:Ch):List AV:=[Ae c.name,Ib c.parts,Ab c.guard,JV c.body]
def GN(l:List Ch):AV:=IP l.length (l.flatMap Ch.cells)
def Tg.cells(t:Tg):List AV:=[Ae t.name,Ml t.types]
def Hp(l:List Tg):AV:=IP l.length (l.flatMap Tg.cells)
def Kd.cells(k:Kd):List AV:=[Ae k.name,GN k.chords]
def EJ(l:List Kd):AV:=IP l.length (l.flatMap Kd.cells)
def Pg.cells(p:Pg):List AV:=[Hp p.tags,EJ p.kinds]
inductive DR(α:Type) where
 |ok (x:α) (p:Nat)
 |bad (q:Nat) (e:Int)
def DR.bind{α β:Type}(r:DR α)(f:α→Nat→DR β):DR β:=match r with
 |.ok x p=>f x p
 |.bad q e=>.bad q e
def Rf:List UInt8:=[116,97,103]
def IH:List UInt8:=[107,105,110,100]
def Hd:List UInt8:=[99,104,111,114,100]
def Li:List UInt8:=[119,104,101,110]
def KC:List UInt8:=[115,101,110,100]
def I1:List UInt8:=[115,112,97,119,110]
def ZX:List UInt8:=[97,115]
def Iu:List UInt8:=[114,101,112,108,121]
def GC:List UInt8:=[98,101,99,111,109,101]
def jA:List (List UInt8):=[Rf,IH,Hd,Li,KC,I1,ZX,Iu,GC]
def VL(s:List UInt8):Bool:=decide (s∈jA)
def HP(ts:List Tk)(p:Nat)(s:List UInt8):Bool:=match ts[p]? with
 |some t=>decide ((t.kind=5∨t.kind=1)∧t.text=s)
 |none=>false
def AR(ts:List Tk)(s:List UInt8)(p:Nat):DR Unit:=if HP ts p s=true then .ok () (p+1)else .bad p 80
def Eg(ts:List Tk)(p:Nat):DR (List UInt8):=match ts[p]? with
 |some t=>if t.kind=1∧VL t.text=false then .ok t.text (p+1)else .bad p 80
 |none=>.bad p 80
def FY(ts:List Tk)(p:Nat):DR (List Nd):=if (Cu ts p).2.2=0 then .ok (Cu ts p).1 (Cu ts p).2.1.toNat else .bad (Cu ts p).2.1.toNat (Cu ts p).2.2
def HK(ts:List Tk)(p:Nat):DR Int:=match ts[p]? with
 |some t=>if t.kind=1∧(Ei t.text).2=true∧(Ei t.text).1≠5 then .ok (Ei t.text).1 (p+1)else .bad p 80
 |none=>.bad p 80
def QY(ts:List Tk)(p:Nat):DR (List UInt8):=if HP ts p [95]=true then .ok [95] (p+1)else Eg ts p
def GB{α:Type}(ts:List Tk)(I:Nat→DR α):Nat→List α→Nat→DR (List α)
 |0,_,p=>.bad p 80
 |f+1,l,p=>if HP ts p [41]=true then .ok l (p+1)else if HP ts p [44]=true then (I (p+1)).bind fun x q=>GB ts I f (l++[x]) q else .bad p 80
def G2{α:Type}(ts:List Tk)(I:Nat→DR α)(p:Nat):DR (List α):=
 (AR ts [40] p).bind fun _ p1=>if HP ts p1 [41]=true then .ok [] (p1+1)else (I p1).bind fun x q=>GB ts I (ts.length+1) [x] q
def Mp(ts:List Tk)(p:Nat):DR (List (List Nd)):=G2 ts (FY ts) p
def NC(ts:List Tk)(p:Nat):DR Tg:=(Eg ts p).bind fun n p1=>(G2 ts (HK ts) p1).bind fun l p2=>(AR ts [59] p2).bind fun _ p3=>.ok ⟨n,l⟩ p3
def Fo(ts:List Tk)(p:Nat):DR Pt:=(Eg ts p).bind fun n p1=>(G2 ts (QY ts) p1).bind fun l p2=>.ok ⟨n,l⟩ p2
def E6(ts:List Tk)(p:Nat):DR Ac:=
 if HP ts p KC=true then (FY ts (p+1)).bind fun x p1=>(Eg ts p1).bind fun n p2=>(Mp ts p2).bind fun l p3=>.ok ⟨1,x,n,[],l⟩ p3
 else if HP ts p I1=true then (Eg ts (p+1)).bind fun n p1=>(AR ts ZX p1).bind fun _ p2=>(Eg ts p2).bind fun v p3=>.ok ⟨2,[],n,v,[]⟩ p3
 else if HP ts p Iu=true then (Mp ts (p+1)).bind fun l p1=>.ok ⟨3,[],[],[],l⟩ p1
 else if HP ts p GC=true then (Eg ts (p+1)).bind fun n p1=>.ok ⟨4,[],n,[],[]⟩ p1
 else .bad p 80
def DI(ts:List Tk):Nat→List Ac→Nat→DR (List Ac)
 |0,_,p=>.bad p 80
 |f+1,l,p=>if HP ts p [125]=true then .ok l (p+1)else (E6 ts p).bind fun a p1=>(AR ts [59] p1).bind fun _ p2=>DI ts f (l++[a]) p2
def Eu(ts:List Tk)(p:Nat):DR (List Ac):=(AR ts [123] p).bind fun _ p1=>DI ts (ts.length+1) [] p1
def D0(ts:List Tk):Nat→List Pt→Nat→DR (List Pt)
 |0,_,p=>.bad p 80
 |f+1,l,p=>if HP ts p [38]=true then (Fo ts (p+1)).bind fun x q=>D0 ts f (l++[x]) q else .ok l p
def D6(ts:List Tk)(p:Nat):DR (List Nd):=if HP ts p Li=true then FY ts (p+1)else .ok [] p
def FE(ts:List Tk)(p:Nat):DR Ch:=
 (AR ts Hd p).bind fun _ p1=>(Eg ts p1).bind fun n p2=>(AR ts [58] p2).bind fun _ p3=>(Fo ts p3).bind fun x p4=>(D0 ts (ts.length+1) [x] p4).bind fun l p5=>(D6 ts p5).bind fun g p6=>(Eu ts p6).bind fun b p7=>.ok ⟨n,l,g,b⟩ p7
def D4(ts:List Tk):Nat→List Ch→Nat→DR (List Ch)
 |0,_,p=>.bad p 80
 |f+1,l,p=>if HP ts p [125]=true then .ok l (p+1)else (FE ts p).bind fun c q=>D4 ts f (l++[c]) q
def FK(ts:List Tk)(p:Nat):DR Kd:=
 (AR ts IH p).bind fun _ p1=>(Eg ts p1).bind fun n p2=>(AR ts [123] p2).bind fun _ p3=>(D4 ts (ts.length+1) [] p3).bind fun l p4=>.ok ⟨n,l⟩ p4
def E1(ts:List Tk):Nat→Pg→Nat→DR Pg
 |0,_,p=>.bad p 80
 |f+1,g,p=>if p<ts.length then (if HP ts p Rf=true then (NC ts (p+1)).bind fun t q=>E1 ts f ⟨g.tags++[t],g.kinds⟩ q else (FK ts p).bind fun k q=>E1 ts f ⟨g.tags,g.kinds++[k]⟩ q)else .ok g p
def DR.adv{α:Type}(ts:List Tk)(p k:Nat):DR α→Prop
 |.ok _ q=>p+k≤q∧q≤ts.length
 |.bad q e=>q≤ts.length∧e≠0
theorem DR.adv_bind{α β:Type}{ts:List Tk}{p k:Nat}{r:DR α}{f:α→Nat→DR β}{j:Nat}(h:r.adv ts p j)(hf:∀ x q,r=.ok x q→p+j≤q→q≤ts.length→(f x q).adv ts p k):(r.bind f).adv ts p k:=by
 cases r with
 |ok x q=>exact hf x q rfl h.1 h.2
 |bad q e=>exact h
theorem DR.adv.le{α:Type}{ts:List Tk}{p p' k k':Nat}{r:DR α}(h:r.adv ts p k)(hk:p'+k'≤p+k):r.adv ts p' k':=by
 cases r with
 |ok x q=>exact⟨BM hk h.1,h.2⟩
 |bad q e=>exact h
theorem CJ{ts:List Tk}{p:Nat}{s:List UInt8}(h:HP ts p s=true):p<ts.length:=by
 unfold HP at h;cases e:ts[p]? with
 |none=>rw[e]at h;cases h
 |some t=>exact (Bs.1 e).1
theorem CQ{ts:List Tk}{p:Nat}(hp:p≤ts.length)(s:List UInt8):(AR ts s p).adv ts p 1:=by
 unfold AR
 split
 ·rename_i h;exact⟨BL _,CJ h⟩
 ·exact⟨hp,by decide⟩
theorem CB{ts:List Tk}{p:Nat}(hp:p≤ts.length):(Eg ts p).adv ts p 1:=by
 unfold Eg
 split
 ·rename_i t e;have:=(Bs.1 e).1
  split
  ·exact⟨BL _,this⟩
  ·exact⟨hp,by decide⟩
 ·exact⟨hp,by decide⟩
theorem KM{ts:List Tk}{p:Nat}(hp:p≤ts.length):(HK ts p).adv ts p 1:=by
 unfold HK
 split
 ·rename_i t e;have:=(Bs.1 e).1
  split
  ·exact⟨BL _,this⟩
  ·exact⟨hp,by decide⟩
 ·exact⟨hp,by decide⟩
theorem Rj{ts:List Tk}{p:Nat}(hp:p≤ts.length):(QY ts p).adv ts p 1:=by
 unfold QY
 split
 ·rename_i h;exact⟨BL _,CJ h⟩
 ·exact CB hp
theorem bX(ts:List Tk):∀ (f:Nat) (m:Md) (p q:Nat),p≤ts.length→pr ts f m p=.bad q→q≤ts.length:=by
 intro f
 induction f with
 |zero=>intro m p q hp h;cases m<;>(cases h;exact hp)
 |succ f ih=>
  intro m p q hp h;have adv:=Eo ts f;cases m with
  |bin n=>
   rw[pr]at h
   split at h
   ·exact ih _ _ _ hp h
   ·split at h
    ·rename_i e;cases h;exact ih _ _ _ hp e
    ·rename_i e;exact ih _ _ _ (adv _ _ _ _ hp e).2 h
  |lp n a=>
   rw[pr]at h
   split at h
   ·cases h
   ·rename_i hk;have hlt:=Qf (fun e=>hk (.inl e))
    split at h
    ·rename_i e;cases h;exact ih _ _ _ (by omega) e
    ·rename_i e
     split at h
     ·cases h
     ·exact ih _ _ _ (adv _ _ _ _ (by omega) e).2 h
  |un=>
   rw[pr]at h
   split at h
   ·rename_i hm;have hlt:p<ts.length:=hm.elim CW CW
    split at h
    ·rename_i e;cases h;exact ih _ _ _ (by omega) e
    ·cases h
   ·exact ih _ _ _ hp h
  |fs=>
   rw[pr]at h
   split at h
   ·rename_i hm;have hlt:p<ts.length:=CW hm
    split at h
    ·rename_i e;cases h;exact ih _ _ _ (by omega) e
    ·rename_i e
     split at h
     ·cases h
     ·cases h;exact (adv _ _ _ _ (by omega) e).2
   ·split at h
    ·cases h;exact hp
    ·rename_i t e;have hlt:p<ts.length:=(Bs.1 e).1
     repeat' split at h
     all_goals first|(cases h;done)|(cases h;exact hp)|exact ih _ _ _ (by omega) h
  |nm s=>
   rw[pr]at h
   split at h
   ·cases h
   split at h
   ·cases h
   split at h
   ·cases h
   split at h
   ·cases h;exact hp
   rename_i hm;have hlt:p<ts.length:=CW (Decidable.not_not.1 hm)
   split at h
   ·rename_i e;cases h;exact ih _ _ _ (by omega) e
   rename_i e;have h1:=(adv _ _ _ _ (by omega) e).2
   split at h
   ·split at h
    ·cases h;exact h1
    rename_i hm2;have hlt2:=CW (Decidable.not_not.1 hm2)
    split at h
    ·rename_i e2;cases h;exact ih _ _ _ (by omega) e2
    ·rename_i e2
     split at h
     ·cases h
     ·cases h;exact (adv _ _ _ _ (by omega) e2).2
   ·split at h
    ·cases h
    ·cases h;exact h1
theorem HW{ts:List Tk}{p:Nat}(hp:p≤ts.length):((Cu ts p).2.2=0→(p:Int)<(Cu ts p).2.1)∧0≤(Cu ts p).2.1∧(Cu ts p).2.1≤ts.length:=by
 unfold Cu;rw[if_neg (by omega),Int.toNat_natCast];have hc:=MF hp;have hcl:(ts.take (DH ts p)).length=DH ts p:=by rw[Bh];omega
 have hpc:p≤(ts.take (DH ts p)).length:=by rw[hcl];unfold DH;omega
 cases e:HS (ts.take (DH ts p)) p with
 |bad q=>
  have:=bX _ _ _ _ _ hpc e
  dsimp only
  exact⟨fun h=>absurd h (by decide),by omega,by omega⟩
 |ok t q=>
  obtain⟨⟨h1,_⟩,h2⟩:=Eo _ _ _ _ _ _ hpc e
  dsimp only
  split
  ·dsimp only
   exact⟨fun _=>by omega,by omega,by omega⟩
  ·rename_i hk
   dsimp only
   exact⟨fun h=>absurd h hk,by omega,by omega⟩
theorem GV{ts:List Tk}{p:Nat}(hp:p≤ts.length):(FY ts p).adv ts p 1:=by
 obtain⟨h1,h2,h3⟩:=HW hp;unfold FY
 split
 ·rename_i h;have:=h1 h;exact⟨by omega,by omega⟩
 ·rename_i h;exact⟨by omega,h⟩
theorem RJ{α:Type}{ts:List Tk}{I:Nat→DR α}(hI:∀ p,p≤ts.length→(I p).adv ts p 1):∀ (f:Nat) (l:List α) (p:Nat),p≤ts.length→(GB ts I f l p).adv ts p 1
 |0,l,p,hp=>⟨hp,by decide⟩
 |f+1,l,p,hp=>by
  rw[GB]
  split
  ·rename_i h;exact⟨BL _,CJ h⟩
  split
  ·rename_i h;have:=CJ h;exact DR.adv_bind (j:=2) ((hI (p+1) this).le (by omega)) fun x q _ h1 h2=>(RJ hI f _ q h2).le (by omega)
  ·exact⟨hp,by decide⟩
theorem Ln{α:Type}{ts:List Tk}{I:Nat→DR α}(hI:∀ p,p≤ts.length→(I p).adv ts p 1){p:Nat}(hp:p≤ts.length):(G2 ts I p).adv ts p 1:=by
 unfold G2;refine DR.adv_bind (CQ hp _) fun _ p1 _ h1 h2=>?_
 split
 ·rename_i h;exact⟨by omega,CJ h⟩
 ·exact DR.adv_bind (j:=2) ((hI p1 h2).le (by omega)) fun x q _ h3 h4=>(RJ hI _ _ q h4).le (by omega)
theorem Oq{ts:List Tk}{p:Nat}(hp:p≤ts.length):(Mp ts p).adv ts p 1:=Ln (fun _=>GV) hp
theorem QC{ts:List Tk}{p:Nat}(hp:p≤ts.length):(NC ts p).adv ts p 1:=by
 unfold NC;refine DR.adv_bind (CB hp) fun n p1 _ h1 h2=>?_
 refine DR.adv_bind (j:=2) ((Ln (fun _=>KM) h2).le (by omega)) fun n p2 _ h3 h4=>?_
 exact DR.adv_bind (j:=2) ((CQ h4 _).le (by omega)) fun n p3 _ h5 h6=>⟨by omega,h6⟩
theorem HT{ts:List Tk}{p:Nat}(hp:p≤ts.length):(Fo ts p).adv ts p 1:=by
 unfold Fo;refine DR.adv_bind (CB hp) fun n p1 _ h1 h2=>?_
 exact DR.adv_bind (j:=2) ((Ln (fun _=>Rj) h2).le (by omega)) fun n p2 _ h3 h4=>⟨by omega,h4⟩
theorem VI{ts:List Tk}{p:Nat}(hp:p≤ts.length):(E6 ts p).adv ts p 1:=by
 unfold E6
 split
 ·rename_i h;have hl:=CJ h;refine DR.adv_bind (j:=2) ((GV hl).le (by omega)) fun n p1 _ h1 h2=>?_
  refine DR.adv_bind (j:=2) ((CB h2).le (by omega)) fun n p1 _ h1 h2=>?_
  exact DR.adv_bind (j:=2) ((Oq h2).le (by omega)) fun n p1 _ h1 h2=>⟨by omega,h2⟩
 split
 ·rename_i h;have hl:=CJ h;refine DR.adv_bind (j:=2) ((CB hl).le (by omega)) fun n p1 _ h1 h2=>?_
  refine DR.adv_bind (j:=2) ((CQ h2 _).le (by omega)) fun n p1 _ h1 h2=>?_
  exact DR.adv_bind (j:=2) ((CB h2).le (by omega)) fun n p1 _ h1 h2=>⟨by omega,h2⟩
 split
 ·rename_i h;have hl:=CJ h;exact DR.adv_bind (j:=2) ((Oq hl).le (by omega)) fun n p1 _ h1 h2=>⟨by omega,h2⟩
 split
 ·rename_i h;have hl:=CJ h;exact DR.adv_bind (j:=2) ((CB hl).le (by omega)) fun n p1 _ h1 h2=>⟨by omega,h2⟩
 ·exact⟨hp,by decide⟩
theorem Se{ts:List Tk}:∀ (f:Nat) (l:List Ac) (p:Nat),p≤ts.length→(DI ts f l p).adv ts p 1
 |0,l,p,hp=>⟨hp,by decide⟩
 |f+1,l,p,hp=>by
  rw[DI]
  split
  ·rename_i h;exact⟨BL _,CJ h⟩
  ·refine DR.adv_bind (VI hp) fun a p1 _ h1 h2=>?_
   refine DR.adv_bind (j:=2) ((CQ h2 _).le (by omega)) fun _ p2 _ h3 h4=>?_
   exact (Se f _ p2 h4).le (by omega)
theorem YS{ts:List Tk}{p:Nat}(hp:p≤ts.length):(Eu ts p).adv ts p 1:=by
 unfold Eu;exact DR.adv_bind (CQ hp _) fun _ p1 _ h1 h2=>(Se _ _ p1 h2).le (by omega)
theorem LW{ts:List Tk}:∀ (f:Nat) (l:List Pt) (p:Nat),p≤ts.length→(D0 ts f l p).adv ts p 0
 |0,l,p,hp=>⟨hp,by decide⟩
 |f+1,l,p,hp=>by
  rw[D0]
  split
  ·rename_i h;exact DR.adv_bind (j:=2) ((HT (CJ h)).le (by omega)) fun x q _ h1 h2=>(LW f _ q h2).le (by omega)
  ·exact⟨BL _,hp⟩
theorem Pe{ts:List Tk}{p:Nat}(hp:p≤ts.length):(D6 ts p).adv ts p 0:=by
 unfold D6
 split
 ·rename_i h;exact (GV (CJ h)).le (by omega)
 ·exact⟨BL _,hp⟩
theorem L8{ts:List Tk}{p:Nat}(hp:p≤ts.length):(FE ts p).adv ts p 1:=by
 unfold FE;refine DR.adv_bind (CQ hp _) fun _ p1 _ h1 h2=>?_
 refine DR.adv_bind (j:=2) ((CB h2).le (by omega)) fun n p2 _ h3 h4=>?_
 refine DR.adv_bind (j:=2) ((CQ h4 _).le (by omega)) fun _ p3 _ h5 h6=>?_
 refine DR.adv_bind (j:=2) ((HT h6).le (by omega)) fun _ p4 _ h7 h8=>?_
 refine DR.adv_bind (j:=2) ((LW _ _ _ h8).le (by omega)) fun _ p5 _ h9 h10=>?_
 refine DR.adv_bind (j:=2) ((Pe h10).le (by omega)) fun _ p6 _ h11 h12=>?_
 exact DR.adv_bind (j:=2) ((YS h12).le (by omega)) fun _ p7 _ h13 h14=>⟨by omega,h14⟩
theorem Kf{ts:List Tk}:∀ (f:Nat) (l:List Ch) (p:Nat),p≤ts.length→(D4 ts f l p).adv ts p 1
 |0,l,p,hp=>⟨hp,by decide⟩
 |f+1,l,p,hp=>by
  rw[D4]
  split
  ·rename_i h;exact⟨BL _,CJ h⟩
  ·exact DR.adv_bind (L8 hp) fun a p1 _ h1 h2=>(Kf f _ p1 h2).le (by omega)
theorem Pr{ts:List Tk}{p:Nat}(hp:p≤ts.length):(FK ts p).adv ts p 1:=by
 unfold FK;refine DR.adv_bind (CQ hp _) fun _ p1 _ h1 h2=>?_
 refine DR.adv_bind (j:=2) ((CB h2).le (by omega)) fun n p2 _ h3 h4=>?_
 refine DR.adv_bind (j:=2) ((CQ h4 _).le (by omega)) fun _ p3 _ h5 h6=>?_
 exact DR.adv_bind (j:=2) ((Kf _ _ _ h6).le (by omega)) fun _ p4 _ h7 h8=>⟨by omega,h8⟩
theorem Ns{ts:List Tk}:∀ (f:Nat) (g:Pg) (p:Nat),p≤ts.length→(E1 ts f g p).adv ts p 0
 |0,l,p,hp=>⟨hp,by decide⟩
 |f+1,l,p,hp=>by
  rw[E1]
  split
  ·split
   ·rename_i h;exact DR.adv_bind (j:=2) ((QC (CJ h)).le (by omega)) fun a p1 _ h1 h2=>(Ns f _ p1 h2).le (by omega)
   ·exact DR.adv_bind (Pr hp) fun a p1 _ h1 h2=>(Ns f _ p1 h2).le (by omega)
  ·exact⟨by omega,hp⟩
def Rd(S:Nat→Prop)(h:List Aa)(y x:AV):Prop:=∀ h',Fr S h h'→fz Tp h' false y x
def AE(S:Nat→Prop)(h:List Aa)(ys xs:List AV):Prop:=∀ h',Fr S h h'→Fe Tp h' false ys xs
def Old(n:Nat)(k:Nat):Prop:=k<n
theorem Rd.fz{S:Nat→Prop}{h:List Aa}{y x:AV}(a:Rd S h y x):Go.Ev.fz Tp h false y x:=a h (Fr.refl _ _)
theorem AE.fz{S:Nat→Prop}{h:List Aa}{y x:List AV}(a:AE S h y x):Fe Tp h false y x:=a h (Fr.refl _ _)
theorem Fr.up{S S' S1:Nat→Prop}{m:Nat}{h2 h3 h4:List Aa}(f:Fr S1 h2 h3)(h1:∀ k,S1 k→k<h2.length→S k)(h1':∀ k,S' k→k<h2.length→S k)(g:Fr S' h3 h4):Fr S h2 h4:=
 ⟨BM f.1 g.1,fun k hk hn=>(g.2 k (BO hk f.1) fun e=>hn (h1' k e hk)).trans (f.2 k hk fun e=>hn (h1 k e hk))⟩
theorem Rd.up{S S' S1:Nat→Prop}{h2 h3:List Aa}{y x:AV}(a:Rd S h2 y x)(f:Fr S1 h2 h3)(h1:∀ k,S1 k→k<h2.length→S k)(h1':∀ k,S' k→k<h2.length→S k):Rd S' h3 y x:=
 fun h4 g=>a h4 (Fr.up (m:=0) f h1 h1' g)
theorem AE.up{S S' S1:Nat→Prop}{h2 h3:List Aa}{y x:List AV}(a:AE S h2 y x)(f:Fr S1 h2 h3)(h1:∀ k,S1 k→k<h2.length→S k)(h1':∀ k,S' k→k<h2.length→S k):AE S' h3 y x:=
 fun h4 g=>a h4 (Fr.up (m:=0) f h1 h1' g)
theorem AE.nil{S:Nat→Prop}{h:List Aa}:AE S h [] []:=fun _ _=>by simp only[Fe]
theorem AE.cons{S:Nat→Prop}{h:List Aa}{y x:AV}{ys xs:List AV}(a:Rd S h y x)(b:AE S h ys xs):AE S h (y::ys) (x::xs):=fun h' f=>by
 simp only[Fe];exact⟨_,_,rfl,a h' f,b h' f⟩
theorem NU{P:Program}{H:List Aa}{b:Bool}:∀ {ys xs ys' xs':List AV},Fe P H b ys xs→Fe P H b ys' xs'→Fe P H b (ys++ys') (xs++xs')
 |[],xs,ys',xs',h1,h2=>by simp only[Fe]at h1;subst h1;exact h2
 |y::ys,xs,ys',xs',h1,h2=>by
  simp only[Fe]at h1;obtain⟨x,xs1,rfl,e1,e2⟩:=h1;simp only[Bc,Fe];exact⟨_,_,rfl,e1,NU e2 h2⟩
theorem AE.append{S:Nat→Prop}{h:List Aa}{ys xs ys' xs':List AV}(a:AE S h ys xs)(b:AE S h ys' xs'):AE S h (ys++ys') (xs++xs'):=fun h' f=>NU (a h' f) (b h' f)
theorem Rd.val{S:Nat→Prop}{h:List Aa}(v:Value):Rd S h (.v v) (.v v):=fun _ _=>by simp only[Go.Ev.fz]
theorem Rd.str{S:Nat→Prop}{h:List Aa}(s:List UInt8):Rd S h (Ae s) (Ae s):=Rd.val _
theorem Rd.int{S:Nat→Prop}{h:List Aa}(k:Int):Rd S h (AA k) (AA k):=Rd.val _
theorem Rd.sl{S:Nat→Prop}{h:List Aa}(b:Bool)(n m:Nat)(cs:List AV):Rd S h (.sl b n m cs) (.sl b n m cs):=fun _ _=>by simp only[Go.Ev.fz,true_or]
theorem Rd.nodes{S:Nat→Prop}{h:List Aa}(l:List Nd):Rd S h (Ab l) (Ab l):=by
 cases l with
 |nil=>exact Rd.val _
 |cons x l=>exact Rd.sl _ _ _ _
theorem Rd.agg{S:Nat→Prop}{h:List Aa}{ys xs:List AV}(a:AE S h ys xs):Rd S h (.agg ys) (.agg xs):=fun h' f=>by
 simp only[Go.Ev.fz];exact⟨_,rfl,a h' f⟩
def GL(n0:Nat)(t:TypeId)(sz:Nat)(h:List Aa)(N:AV)(n:Nat)(ys:List AV):Prop:=
 (N=.v (.slice none 0 0)∧n=0∧ys=[])∨∃ j ver xs,N=.own j ver n∧0<n∧n0≤j∧h[j]?=some ⟨ver,t,xs⟩∧xs.length=n * sz∧AE (fun k=>k<n0∨k=j) h ys xs
theorem GL.nil{n0:Nat}{t:TypeId}{sz:Nat}{h:List Aa}:GL n0 t sz h (.v (.slice none 0 0)) 0 []:=.inl ⟨rfl,rfl,rfl⟩
theorem GL.fr{n0:Nat}{t:TypeId}{sz:Nat}{h h':List Aa}{N:AV}{n:Nat}{ys:List AV}{S:Nat→Prop}(a:GL n0 t sz h N n ys)(f:Fr S h h')(hS:∀ k,S k→k<h.length→k<n0∧¬AZ N k):GL n0 t sz h' N n ys:=by
 rcases a with a|⟨j,ver,xs,rfl,hn,hj0,hj,hl,hr⟩
 ·exact .inl a
 ·have hjl:=(Bs.1 hj).1;exact .inr ⟨j,ver,xs,rfl,hn,hj0,f.at hj (fun e=>(hS j e hjl).2 rfl),hl,hr.up f (fun k e hk=>.inl (hS k e hk).1) (fun k e _=>e)⟩
theorem GL.lt{n0:Nat}{t:TypeId}{sz:Nat}{h:List Aa}{N:AV}{n:Nat}{ys:List AV}(a:GL n0 t sz h N n ys){k:Nat}(hk:AZ N k):n0≤k∧k<h.length:=by
 rcases a with⟨rfl,_⟩|⟨j,ver,xs,rfl,hn,hj0,hj,hl,hr⟩
 ·exact hk.elim
 ·have hk':k=j:=hk;subst hk';exact⟨hj0,(Bs.1 hj).1⟩
theorem GL.fr0{n0:Nat}{t:TypeId}{sz:Nat}{h h':List Aa}{N:AV}{n:Nat}{ys:List AV}{S:Nat→Prop}(a:GL n0 t sz h N n ys)(f:Fr S h h')(hS:∀ k,S k→k<n0):GL n0 t sz h' N n ys:=
 a.fr f fun k e _=>⟨hS k e,fun hk=>by have:=(a.lt hk).1;have:=hS k e;omega⟩
theorem GL.rd{n0:Nat}{t:TypeId}{sz:Nat}{h:List Aa}{N:AV}{n:Nat}{ys:List AV}(a:GL n0 t sz h N n ys):Rd (Old n0) h (IP n ys) N:=by
 rcases a with⟨rfl,rfl,rfl⟩|⟨j,ver,xs,rfl,hn,hj0,hj,hl,hr⟩
 ·exact Rd.val _
 ·intro h' f;obtain⟨n,rfl⟩:∃ m,n=m+1:=⟨n-1,by omega⟩;have hj':=f.at hj (fun e=>by have:j<n0:=e;omega);simp only[IP,Go.Ev.fz];exact .inr ⟨trivial,j,_,xs,rfl,hj',BL _,.inl trivial,BB,hr h' (f.mono fun k e=>.inl e)⟩
theorem GL.push{n0:Nat}{t:TypeId}{sz:Nat}{h h':List Aa}{N:AV}{n:Nat}{ys es ecs:List AV}{j' ver':Nat}{xs:List AV}(a:GL n0 t sz h N n ys)
  (hx:∀ j ver,N=.own j ver n→j'=j∧h[j]?=some ⟨ver,t,xs⟩) (hx0:N=.v (.slice none 0 0)→h.length≤j'∧xs=[]) (hn0:n0≤h.length)
  (f:Fr (fun k=>k<n0∨AZ N k) h h') (hj:h'[j']?=some ⟨ver',t,xs++es⟩) (hl:es.length=sz) (he:AE (fun k=>k<n0∨AZ N k) h ecs es):GL n0 t sz h' (.own j' ver' (n+1)) (n+1) (ys++ecs):=by
 rcases a with⟨rfl,rfl,rfl⟩|⟨j,ver,xs1,rfl,hn,hj0,hj1,hl1,hr⟩
 ·obtain⟨h1,rfl⟩:=hx0 rfl;refine .inr ⟨j',ver',_,rfl,Nat.succ_pos _,by omega,hj,by simp[hl],?_⟩;exact he.up f (fun k e _=>e) fun k e hk=>e.elim .inl fun e=>by omega
 ·obtain⟨rfl,h2⟩:=hx j ver rfl;rw[hj1]at h2;cases h2;refine .inr ⟨j',ver',_,rfl,Nat.succ_pos _,hj0,hj,by rw[Bp,hl1,hl,Nat.succ_mul],?_⟩;have f':Fr (fun k=>k<n0∨k=j') h h':=f;exact (hr.up f' (fun k e _=>e) (fun k e _=>e)).append (he.up f' (fun k e _=>e) (fun k e _=>e))
set_option maxRecDepth 20000
variable {γ:List (Nat×AV)} {ts:List Tk} {L:AV}
theorem AH:AX Tp 127=some false∧
  AX Tp 128=some false∧
  AX Tp 130=some true∧
  AX Tp 133=some false∧
  AX Tp 135=some true∧
  AX Tp 137=some true∧
  AX Tp 26=some false∧
  AX Tp 3=some false∧
  AX Tp 41=some true∧
  AX Tp 48=some false∧
  AX Tp 53=some true∧
  AX Tp 56=some false∧
  AX Tp 59=some true∧
  AX Tp 68=some false∧
  AX Tp 69=some false∧
  AX Tp 71=some true∧
  AX Tp 78=some false∧
  AX Tp 88=some false∧
  AX Tp 9=some false∧
  AX Tp 90=some true∧
  I0 Tp 128 128=some (9,1,16)∧
  I0 Tp 133 133=some (41,1,24)∧
  I0 Tp 56 56=some (130,2,40)∧
  I0 Tp 57 57=some (135,5,88)∧
  I0 Tp 68 68=some (137,2,40)∧
  I0 Tp 69 69=some (90,2,40)∧
  I0 Tp 78 78=some (3,1,8)∧
  I0 Tp 88 88=some (59,4,88)∧
  Az Tp 37=some 5∧
  Az Tp 48=some 53∧
  Al Tp 130 1=some (1,128)∧
  Al Tp 135 2=some (2,9)∧
  Al Tp 135 3=some (3,9)∧
  Al Tp 135 4=some (4,133)∧
  Al Tp 137 1=some (1,78)∧
  Al Tp 199 0=some (0,48)∧
  Al Tp 199 1=some (1,3)∧
  Al Tp 199 2=some (2,3)∧
  Al Tp 201 0=some (0,3)∧
  Al Tp 201 1=some (1,26)∧
  Al Tp 53 0=some (0,3)∧
  Al Tp 53 1=some (1,9)∧
  Al Tp 53 4=some (4,3)∧
  Al Tp 59 1=some (1,56)∧
  Al Tp 59 2=some (2,41)∧
  Al Tp 59 3=some (3,57)∧
  Al Tp 71 0=some (0,68)∧
  Al Tp 71 1=some (1,69)∧
  Al Tp 90 1=some (1,88)∧
  Gt Tp 20=some true∧
  Gt Tp 201=some false∧
  Od Tp 128=some (9,1,[.v (.string ⟨#[]⟩)])∧
  Od Tp 133=some (41,1,[.v (.slice none 0 0)])∧
  Od Tp 56=some (130,2,[.v (.string ⟨#[]⟩),.v (.slice none 0 0)])∧
  Od Tp 57=some (135,5,[.v (.int .i64 0),.v (.slice none 0 0),.v (.string ⟨#[]⟩),.v (.string ⟨#[]⟩),.v (.slice none 0 0)])∧
  Od Tp 68=some (137,2,[.v (.string ⟨#[]⟩),.v (.slice none 0 0)])∧
  Od Tp 69=some (90,2,[.v (.string ⟨#[]⟩),.v (.slice none 0 0)])∧
  Od Tp 78=some (3,1,[.v (.int .i64 0)])∧
  Od Tp 88=some (59,4,[.v (.string ⟨#[]⟩),.v (.slice none 0 0),.v (.slice none 0 0),.v (.slice none 0 0)])∧
  BW Tp 130=some [(0,1),(1,1)]∧
  BW Tp 135=some [(0,1),(1,1),(2,1),(3,1),(4,1)]∧
  BW Tp 137=some [(0,1),(1,1)]∧
  BW Tp 199=some [(0,1),(1,1),(2,1)]∧
  BW Tp 201=some [(0,1),(1,1)]∧
  BW Tp 59=some [(0,1),(1,1),(2,1),(3,1)]∧
  BW Tp 90=some [(0,1),(1,1)]∧
  Aq Tp 128=some 1∧
  Aq Tp 130=some 2∧
  Aq Tp 133=some 1∧
  Aq Tp 135=some 5∧
  Aq Tp 137=some 2∧
  Aq Tp 201=some 2∧
  Aq Tp 26=some 1∧
  Aq Tp 3=some 1∧
  Aq Tp 41=some 1∧
  Aq Tp 48=some 1∧
  Aq Tp 5=some 1∧
  Aq Tp 53=some 6∧
  Aq Tp 56=some 1∧
  Aq Tp 57=some 1∧
  Aq Tp 59=some 4∧
  Aq Tp 68=some 1∧
  Aq Tp 69=some 1∧
  Aq Tp 71=some 2∧
  Aq Tp 78=some 1∧
  Aq Tp 88=some 1∧
  Aq Tp 9=some 1∧
  Aq Tp 90=some 2∧
  Hw Tp 130=some [.v (.string ⟨#[]⟩),.v (.slice none 0 0)]∧
  Hw Tp 133=some [.v (.slice none 0 0)]∧
  Hw Tp 135=some [.v (.int .i64 0),.v (.slice none 0 0),.v (.string ⟨#[]⟩),.v (.string ⟨#[]⟩),.v (.slice none 0 0)]∧
  Hw Tp 137=some [.v (.string ⟨#[]⟩),.v (.slice none 0 0)]∧
  Hw Tp 199=some [.v (.slice none 0 0),.v (.int .i64 0),.v (.int .i64 0)]∧
  Hw Tp 201=some [.v (.int .i64 0),.v (.int .i64 0)]∧
  Hw Tp 26=some [.v (.int .i64 0)]∧
  Hw Tp 3=some [.v (.int .i64 0)]∧
  Hw Tp 41=some [.v (.slice none 0 0)]∧
  Hw Tp 53=some [.v (.int .i64 0),.v (.string ⟨#[]⟩),.v (.int .i64 0),.v (.float .f64 0),.v (.int .i64 0),.v (.int .i64 0)]∧
  Hw Tp 59=some [.v (.string ⟨#[]⟩),.v (.slice none 0 0),.v (.slice none 0 0),.v (.slice none 0 0)]∧
  Hw Tp 71=some [.v (.slice none 0 0),.v (.slice none 0 0)]∧
  Hw Tp 90=some [.v (.string ⟨#[]⟩),.v (.slice none 0 0)]:=
 (by and_intros<;>kernel_rfl)
structure FC(γ:List (Nat×AV))(L:AV)(ts:List Tk):Prop where
 gl:Gl γ
 glw:TI γ
 l:o4 L ts
 ok:∀ t∈ts,QF t
 n:ts.length≤2000000
theorem FC.len(E:FC γ L ts)(s:List Aa):CE Tp 48 s L=some (.v (.int .i64 ts.length)):=by
 have e24:Az Tp 48=some 53:=by kernel_rfl
 rcases E.l with⟨rfl,rfl⟩|⟨b,m,cs,rfl,_⟩
 ·simp only[CE,e24];rfl
 ·simp only[CE,e24];rfl
theorem FC.sl(E:FC γ L ts){p:Nat}(hp:p<ts.length):∃ b m cs,L=.sl b ts.length m cs∧C3 ts<+:cs:=by
 rcases E.l with⟨rfl,rfl⟩|⟨b,m,cs,h,h1,_⟩
 ·exact absurd hp (by simp)
 ·exact⟨b,m,cs,h,h1⟩
def RD(h:List Aa)(i:Nat)(L:AV)(p:Nat)(n:Nat):Prop:=h[i]?=some ⟨0,199,[L,.v (.int .i64 (p:Int)),.v (.int .i64 (n:Int))]⟩
theorem RD.lt{h:List Aa}{i:Nat}{L:AV}{p n:Nat}(a:RD h i L p n):i<h.length:=(Bs.1 a).1
theorem RD.fr{S:Nat→Prop}{h h1:List Aa}{i:Nat}{L:AV}{p n:Nat}(a:RD h i L p n)(f:Fr S h h1)(hS:¬S i):RD h1 i L p n:=f.at a hS
theorem RD.app{h:List Aa}{i:Nat}{L:AV}{p n:Nat}(a:RD h i L p n)(l:List Aa):RD (h++l) i L p n:=a.fr (Fr.app (S:=BR) h l) fun h=>h
def H9(pl e:Int):AV:=.ifc 201 (.agg [AA pl,AA e])
def IJ(ts:List Tk)(n q:Nat):Int:=match ts[q]? with
 |some t=>t.pos
 |none=>n
theorem c202:Ak Tp 202:=⟨_,Tryz.func202,by kernel_rfl,by kernel_rfl⟩
theorem c131:Ak Tp 131:=⟨_,Tryz.func131,by kernel_rfl,by kernel_rfl⟩
theorem gK:Ak Tp 128:=⟨_,Tryz.func128,by kernel_rfl,by kernel_rfl⟩
theorem c127:Ak Tp 127:=⟨_,Tryz.func127,by kernel_rfl,by kernel_rfl⟩
theorem mU:Ak Tp 199:=⟨_,Tryz.func199,by kernel_rfl,by kernel_rfl⟩
theorem cC:Ak Tp 129:=⟨_,Tryz.func129,by kernel_rfl,by kernel_rfl⟩
theorem jG(E:FC γ L ts){h:List Aa}{i p n:Nat}(hp:p≤ts.length)(hr:RD h i L p n)(s:List UInt8):
  Ck Tp γ 202 [.ptr i 0 0,.v (.string ⟨s.toArray⟩)] h fun o h'=>o=.ret (.v (.bool (HP ts p s)))∧Fr BR h h':=by
 have hi:h[i]?=_:=hr;have g1:∀ l,(h++l)[i]?=_:=fun l=>hr.app l
 have s1:∀ x,(h++[x])[h.length]?=some x:=fun x=>by simp
 have s2:∀ x y,(h++[x]).set h.length y=h++[y]:=fun x y=>by simp
 have ll:=E.len;refine Ck.of Tryz.func202 rfl ?_
 by_cases hlt:p<ts.length
 ·obtain⟨b,m,cs,rfl,hcs⟩:=E.sl hlt;obtain⟨t,ht⟩:∃ t,ts[p]?=some t:=⟨ts[p],by simp[hlt]⟩;have h6:=EV.take hcs ht;have h6l:6≤(cs.drop (p * 6)).length:=by have:=EV.len hcs hlt;rw[Bd];omega
  have d1:((p:Int)==(ts.length:Int))=false:=by simp only[beq_eq_false_iff_ne,ne_eq];omega
  have hB:HP ts p s=decide ((t.kind=5∨t.kind=1)∧t.text=s):=by unfold HP;rw[ht]
  rw[hB];simp only[Tryz.f202,Af,seval];refine dI ?_;simp only[AH,hi,ll,d1,Af,A7,seval];refine dX ?_;simp only[AH,hi,h6,h6l,s1,s2,Tk.cells,Af,A7,seval];refine⟨hlt,?_⟩
  (repeat' (first|(with_reducible refine aI ?_ ?_)|(first|(first|refine gF ?_ ?_|refine gT ?_ ?_|refine cI ?_ ?_|refine pI ?_ ?_)<;>intro h|(refine dI ?_;have h:=trivial))<;>simp only[h,s1,Af,A7,AH,g1,hi,ll,d1,h6,h6l,s2,Tk.cells,Bv,Bf,seval]))
  all_goals first|exact Fr.app _ _|(refine congrArg Out.ret (congrArg AV.v (congrArg Value.bool ?_));rw[Bool.eq_iff_iff];simp_all;done)
 ·have hp2:p=ts.length:=by omega
  have d1:((p:Int)==(ts.length:Int))=true:=by rw[hp2];simp
  have hB:HP ts p s=false:=by unfold HP;rw[Bq (by omega)]
  rw[hB];simp only[Tryz.f202,Af,seval];refine dI ?_;simp only[AH,hi,ll,d1,Af,A7,seval];exact Fr.refl _ _
def E9{α:Type}(ts:List Tk)(n:Nat)(L:AV)(i:Nat)(h:List Aa)(A:α→AV→List Aa→Prop)(r:DR α)(o:Out)(h':List Aa):Prop:=
 Fr (AU i) h h'∧match r with
 |.ok x q=>∃ a,o=.ret a∧RD h' i L q n∧A x a h'
 |.bad q e=>o=.pan (H9 (IJ ts n q) e)
theorem Jw{α:Type}{E:AV→St→Prop}{g:FuncId}{xs:List AV}{d:Option Tmp}{K:St→Prop}{s:St}{n i:Nat}{A:α→AV→List Aa→Prop}{r:DR α}(c:Ak Tp g)
  (he:Ck Tp s.s.g g xs s.h (E9 ts n L i s.h A r)) (hok:∀ x q a h1,r=.ok x q→Fr (AU i) s.h h1→RD h1 i L q n→A x a h1→K (pt ⟨s.s,h1⟩ d a))
  (hbad:∀ q e h1,r=.bad q e→Fr (AU i) s.h h1→E (H9 (IJ ts n q) e) ⟨s.s,h1⟩):Ao Tp E g xs d K s:=by
 refine Ao.intro c _ he (fun a h1 hh=>?_) (fun v h1 hh=>?_)
 ·cases r with
  |ok x q=>
   obtain⟨f,a',e,r1,hA⟩:=hh;cases e;exact hok x q _ h1 rfl f r1 hA
  |bad q e=>obtain⟨_,e⟩:=hh;cases e
 ·cases r with
  |ok x q=>obtain⟨_,a',e,_⟩:=hh;cases e
  |bad q e=>
   obtain⟨f,e⟩:=hh;cases e;exact hbad q _ h1 rfl f
theorem RD.set{h:List Aa}{i:Nat}{L:AV}{p n:Nat}(a:RD h i L p n)(q:Nat):RD (h.set i ⟨0,199,[L,.v (.int .i64 (q:Int)),.v (.int .i64 (n:Int))]⟩) i L q n:=Be a.lt
def oJ(ts:List Tk)(L:AV)(i p n:Nat)(s:List UInt8)(h:List Aa)(o:Out)(h':List Aa):Prop:=
 o=.ret (.v (.bool (HP ts p s)))∧Fr (AU i) h h'∧RD h' i L (if HP ts p s=true then p+1 else p) n
theorem IY(E:FC γ L ts){h:List Aa}{i p n:Nat}(hp:p≤ts.length)(hr:RD h i L p n)(s:List UInt8):
  Ck Tp γ 131 [.ptr i 0 0,.v (.string ⟨s.toArray⟩)] h (oJ ts L i p n s h):=by
 refine Ck.of Tryz.func131 rfl ?_;simp only[Tryz.f131,Af,seval];refine Ao.intro c202 _ (jG E hp hr s) (fun r h1 hh=>?_) (fun v h1 hh=>by cases hh.1);obtain⟨e,f1⟩:=hh;cases e;have r1:=hr.fr f1 (fun h=>h);have h1i:h1[i]?=_:=r1;have f1':Fr (AU i) h h1:=f1.mono fun k e=>e.elim
 cases hB:HP ts p s with
 |true=>
  have hlt:=CJ hB;have hn:=E.n;have w1:IntKind.i64.wrap ((p:Int)+1)=((p+1:Nat):Int):=(A4 (by omega) (by omega)).trans (by omega);simp only[AH,h1i,w1,Af,A7,Bv,seval];refine⟨by rw[hB],f1'.trans (Fr.set (S:=AU i) _ rfl) fun k e=>.inl e,?_⟩;rw[hB];exact r1.set (p+1)
 |false=>
  simp only[Af,Bf,seval];refine⟨by rw[hB],f1',?_⟩;rw[hB];exact r1
theorem PF(E:FC γ L ts){h:List Aa}{i p n:Nat}(hr:RD h i L p n)(q:Nat):
  Ck Tp γ 199 [.ptr i 0 0,.v (.int .i64 (q:Int))] h fun o h'=>o=.ret (.v (.int .i64 (IJ ts n q)))∧h'=h:=by
 have hi:h[i]?=_:=hr;have ll:=E.len;refine Ck.of Tryz.func199 rfl ?_
 by_cases hlt:q<ts.length
 ·obtain⟨b,m,cs,rfl,hcs⟩:=E.sl hlt;obtain⟨t,ht⟩:∃ t,ts[q]?=some t:=⟨ts[q],by simp[hlt]⟩;have h6l:=EV.len hcs hlt;have h4:cs[q * 6+4]?=_:=EV.cell (b:=b) hcs ht (k:=4) (by decide);have d1:decide (q<ts.length)=true:=decide_eq_true hlt;have hP:IJ ts n q=t.pos:=by unfold IJ;rw[ht]
  rw[hP];simp only[Tryz.f199,AH,hi,ll,d1,h4,Tk.cells,Af,A7,seval];exact hlt
 ·have d1:decide (q<ts.length)=false:=decide_eq_false hlt;have hP:IJ ts n q=n:=by unfold IJ;rw[Bq (by omega)]
  rw[hP];simp only[Tryz.f199,AH,hi,ll,d1,Af,A7,seval]
theorem EE(E:FC γ L ts){h:List Aa}{i p n:Nat}(hr:RD h i L p n)(e:Int):
  Ck Tp γ 127 [.ptr i 0 0,.v (.int .i64 e)] h fun o h'=>o=.pan (H9 (IJ ts n p) e)∧h'=h:=by
 have hi:h[i]?=_:=hr;refine Ck.of Tryz.func127 rfl ?_;simp only[Tryz.f127,AH,hi,Af,A7,seval];refine Ao.intro mU _ (PF E hr p) (fun r h1 hh=>?_) (fun v h1 hh=>by cases hh.1);obtain⟨e,rfl⟩:=hh;cases e;simp only[AH,Af,seval]
 rfl
def oU(_:Unit)(a:AV)(_:List Aa):Prop:=a=.tup []
theorem K8(E:FC γ L ts){h:List Aa}{i p n:Nat}(hp:p≤ts.length)(hr:RD h i L p n)(s:List UInt8):
  Ck Tp γ 128 [.ptr i 0 0,.v (.string ⟨s.toArray⟩)] h (E9 ts n L i h oU (AR ts s p)):=by
 refine Ck.of Tryz.func128 rfl ?_;simp only[Tryz.f128,Af,seval];refine Ao.intro c131 _ (IY E hp hr s) (fun r h1 hh=>?_) (fun v h1 hh=>by cases hh.1);obtain⟨e,f1,r1⟩:=hh;cases e;unfold AR;cases hB:HP ts p s with
 |true=>
  rw[hB]at r1;simp only[Af,Bv,seval];exact⟨f1,_,rfl,r1,rfl⟩
 |false=>
  rw[hB]at r1;simp only[Af,Bf,seval];refine Ao.intro c127 _ (EE E r1 80) (fun r h2 hh=>by cases hh.1) (fun v h2 hh=>?_);obtain⟨e,rfl⟩:=hh;cases e;exact⟨f1,rfl⟩
abbrev S8:=Nat×Option (Int×Int)
variable (ts:List Tk) (n:Nat)
def HD(s:List UInt8)(S:S8):Bool:=S.2.isNone&&HP ts S.1 s
def DZ(q:Nat)(e:Int)(S:S8):S8:=match S.2 with
 |none=>(S.1,some (e,IJ ts n q))
 |some _=>S
def Av(s:List UInt8)(S:S8):S8:=if HD ts s S=true then (S.1+1,none)else DZ ts n S.1 80 S
def Au(S:S8):List UInt8×S8:=match S.2,ts[S.1]? with
 |none,some t=>if t.kind=1∧VL t.text=false then (t.text,(S.1+1,none))else ([],DZ ts n S.1 80 S)
 |_,_=>([],DZ ts n S.1 80 S)
def Bb(S:S8):List Nd×S8:=match S.2 with
 |none=>if (Cu ts S.1).2.2=0 then ((Cu ts S.1).1,((Cu ts S.1).2.1.toNat,none))else ([],DZ ts n (Cu ts S.1).2.1.toNat (Cu ts S.1).2.2 S)
 |some _=>([],S)
def Cm(S:S8):Int×S8:=match S.2,ts[S.1]? with
 |none,some t=>if t.kind=1∧(Ei t.text).2=true∧(Ei t.text).1≠5 then ((Ei t.text).1,(S.1+1,none))else (0,DZ ts n S.1 80 S)
 |_,_=>(0,DZ ts n S.1 80 S)
def Dj(S:S8):List UInt8×S8:=if HD ts [95] S=true then ([95],(S.1+1,none))else Au ts n S
def EC{α:Type}(I:S8→α×S8):Nat→List α→S8→List α×S8
 |0,l,S=>(l,S)
 |f+1,l,S=>if S.2.isSome=true then (l,S)else if HD ts [41] S=true then (l,(S.1+1,none))else EC I f (l++[(I (Av ts n [44] S)).1]) (I (Av ts n [44] S)).2
def ER{α:Type}(I:S8→α×S8)(S:S8):List α×S8:=
 if HD ts [41] (Av ts n [40] S)=true then ([],((Av ts n [40] S).1+1,none))else EC ts n I (ts.length+1) [(I (Av ts n [40] S)).1] (I (Av ts n [40] S)).2
def Fh(S:S8):List (List Nd)×S8:=ER ts n (Bb ts n) S
def Hv(S:S8):Tg×S8:=(⟨(Au ts n S).1,(ER ts n (Cm ts n) (Au ts n S).2).1⟩,Av ts n [59] (ER ts n (Cm ts n) (Au ts n S).2).2)
def AN(S:S8):Pt×S8:=(⟨(Au ts n S).1,(ER ts n (Dj ts n) (Au ts n S).2).1⟩,(ER ts n (Dj ts n) (Au ts n S).2).2)
def iT(S:S8):Ac×S8:=(⟨1,(Bb ts n S).1,(Au ts n (Bb ts n S).2).1,[],(Fh ts n (Au ts n (Bb ts n S).2).2).1⟩,(Fh ts n (Au ts n (Bb ts n S).2).2).2)
def bO(S:S8):Ac×S8:=(⟨2,[],(Au ts n S).1,(Au ts n (Av ts n ZX (Au ts n S).2)).1,[]⟩,(Au ts n (Av ts n ZX (Au ts n S).2)).2)
def bG(S:S8):Ac×S8:=(⟨3,[],[],[],(Fh ts n S).1⟩,(Fh ts n S).2)
def VG(S:S8):Ac×S8:=(⟨4,[],(Au ts n S).1,[],[]⟩,(Au ts n S).2)
def G1(S:S8):Ac×S8:=
 if HD ts KC S=true then iT ts n (S.1+1,none)else if HD ts I1 S=true then bO ts n (S.1+1,none)
 else if HD ts Iu S=true then bG ts n (S.1+1,none)else if HD ts GC S=true then VG ts n (S.1+1,none)else (⟨0,[],[],[],[]⟩,DZ ts n S.1 80 S)
def DF(S:S8):Ac×S8:=((G1 ts n S).1,Av ts n [59] (G1 ts n S).2)
def C8:Nat→List Ac→S8→List Ac×S8
 |0,l,S=>(l,S)
 |f+1,l,S=>if S.2.isSome=true then (l,S)else if HD ts [125] S=true then (l,(S.1+1,none))else C8 f (l++[(DF ts n S).1]) (DF ts n S).2
def Cf:Nat→List Pt→S8→List Pt×S8
 |0,l,S=>(l,S)
 |f+1,l,S=>if HD ts [38] S=true then Cf f (l++[(AN ts n (S.1+1,none)).1]) (AN ts n (S.1+1,none)).2 else (l,S)
def CA(S:S8):List Nd×S8:=if HD ts Li S=true then Bb ts n (S.1+1,none)else ([],S)
def Dk(S:S8):Ch×S8:=
 let w:=Au ts n (Av ts n Hd S)
 let p:=AN ts n (Av ts n [58] w.2)
 let l:=Cf ts n (ts.length+1) [p.1] p.2
 let g:=CA ts n l.2
 let b:=C8 ts n (ts.length+1) [] (Av ts n [123] g.2)
 (⟨w.1,l.1,g.1,b.1⟩,b.2)
def Dq:Nat→List Ch→S8→List Ch×S8
 |0,l,S=>(l,S)
 |f+1,l,S=>if S.2.isSome=true then (l,S)else if HD ts [125] S=true then (l,(S.1+1,none))else Dq f (l++[(Dk ts n S).1]) (Dk ts n S).2
def Rp(S:S8):Kd×S8:=
 let w:=Au ts n (Av ts n IH S)
 let l:=Dq ts n (ts.length+1) [] (Av ts n [123] w.2)
 (⟨w.1,l.1⟩,l.2)
def H7:Nat→Pg→S8→Pg×S8
 |0,g,S=>(g,S)
 |f+1,g,S=>if S.2.isNone=true∧S.1<ts.length then (if HD ts Rf S=true then H7 f ⟨g.tags++[(Hv ts n (S.1+1,none)).1],g.kinds⟩ (Hv ts n (S.1+1,none)).2
   else H7 f ⟨g.tags,g.kinds++[(Rp ts n S).1]⟩ (Rp ts n S).2)else (g,S)
variable {ts n}
def Ec{α:Type}(ts:List Tk)(n:Nat)(D:DR α)(r:α×S8):Prop:=match D with
 |.ok x q=>r=(x,(q,none))
 |.bad q e=>r.2.2=some (e,IJ ts n q)
theorem CN{s:List UInt8}{p:Nat}:HD ts s (p,none)=HP ts p s:=by simp[HD]
theorem Gi{s:List UInt8}{p:Nat}{b:Int×Int}:HD ts s (p,some b)=false:=by simp[HD]
theorem Ki{q p:Nat}{e:Int}{b:Int×Int}:DZ ts n q e (p,some b)=(p,some b):=rfl
theorem Cy{s:List UInt8}{p:Nat}{b:Int×Int}:Av ts n s (p,some b)=(p,some b):=by simp[Av,Gi,Ki]
theorem Dd{p:Nat}{b:Int×Int}:Au ts n (p,some b)=([],(p,some b)):=by simp[Au,Ki]
theorem JY{p:Nat}{b:Int×Int}:Bb ts n (p,some b)=([],(p,some b)):=by simp[Bb]
theorem Kg{p:Nat}{b:Int×Int}:Cm ts n (p,some b)=(0,(p,some b)):=by simp[Cm,Ki]
theorem Wo{p:Nat}{b:Int×Int}:Dj ts n (p,some b)=([],(p,some b)):=by simp[Dj,Gi,Dd]
theorem Dc{α:Type}{I:S8→α×S8}(f:Nat)(l:List α){p:Nat}{b:Int×Int}:EC ts n I f l (p,some b)=(l,(p,some b)):=by cases f<;>simp[EC]
theorem FI{α:Type}{I:S8→α×S8}(hI:∀ p b,(I (p,some b)).2=(p,some b)){p:Nat}{b:Int×Int}:(ER ts n I (p,some b)).2=(p,some b):=by
 simp only[ER,Cy,Gi,Bool.false_eq_true,if_false,hI,Dc]
theorem Gh{s:List UInt8}{p:Nat}:Ec ts n (AR ts s p) ((),Av ts n s (p,none)):=by
 unfold AR Av;rw[CN]
 split<;>simp[Ec,DZ]
theorem Fb{p:Nat}:Ec ts n (Eg ts p) (Au ts n (p,none)):=by
 unfold Eg Au;cases e:ts[p]? with
 |none=>simp[Ec,DZ]
 |some t=>simp only[];split<;>simp[Ec,DZ]
theorem Zu{p:Nat}:Ec ts n (HK ts p) (Cm ts n (p,none)):=by
 unfold HK Cm;cases e:ts[p]? with
 |none=>simp[Ec,DZ]
 |some t=>simp only[];split<;>simp[Ec,DZ]
theorem NG{p:Nat}:Ec ts n (FY ts p) (Bb ts n (p,none)):=by
 unfold FY Bb;simp only[]
 split<;>simp[Ec,DZ]
theorem cG{p:Nat}:Ec ts n (QY ts p) (Dj ts n (p,none)):=by
 unfold QY Dj;rw[CN]
 split
 ·simp[Ec]
 ·exact Fb
theorem SX{α:Type}{D:Nat→DR α}{I:S8→α×S8}(hI:∀ p,Ec ts n (D p) (I (p,none)))(hS:∀ p b,(I (p,some b)).2=(p,some b)):∀ (f:Nat) (l:List α) (p:Nat),ts.length<f+p→p≤ts.length→
  (∀ p,p≤ts.length→(D p).adv ts p 1)→Ec ts n (GB ts D f l p) (EC ts n I f l (p,none))
 |0,l,p,h,h2,_=>by omega
 |f+1,l,p,h,h2,hA=>by
  rw[GB,EC];simp only[Option.isSome_none,Bool.false_eq_true,if_false,CN]
  split
  ·simp[Ec]
  ·split
   ·rename_i hB;have hw:Av ts n [44] (p,none)=(p+1,none):=by unfold Av;rw[CN,if_pos hB]
    rw[hw];have hlt:=CJ hB;have k:=hI (p+1);have ka:=hA (p+1) hlt;cases e:D (p+1)with
    |ok x q=>
     rw[e]at k ka;have k:I (p+1,none)=(x,(q,none)):=k;rw[k];exact SX hI hS f _ q (by have:=ka.1;omega) ka.2 hA
    |bad q e'=>
     rw[e]at k;have k:(I (p+1,none)).2.2=some (e',IJ ts n q):=k;obtain⟨p',b,e2⟩:∃ p' b,(I (p+1,none)).2=(p',some b):=⟨_,_,Prod.ext rfl k⟩;rw[e2,Dc];rw[e2]at k;exact k
   ·rename_i hB;have hw:Av ts n [44] (p,none)=(p,some (80,IJ ts n p)):=by unfold Av;rw[CN,if_neg hB];rfl
    rw[hw,hS,Dc];simp[Ec]
theorem NK{α:Type}{D:Nat→DR α}{I:S8→α×S8}(hI:∀ p,Ec ts n (D p) (I (p,none)))(hS:∀ p b,(I (p,some b)).2=(p,some b))(hA:∀ p,p≤ts.length→(D p).adv ts p 1){p:Nat}(hp:p≤ts.length):Ec ts n (G2 ts D p) (ER ts n I (p,none)):=by
 unfold G2 ER AR;cases hB:HP ts p [40]with
 |false=>
  have hw:Av ts n [40] (p,none)=(p,some (80,IJ ts n p)):=by unfold Av;rw[CN,if_neg (by rw[hB];decide)];rfl
  rw[hw,Gi,if_neg (by decide),hS,Dc];simp[Ec,DR.bind]
 |true=>
  have hw:Av ts n [40] (p,none)=(p+1,none):=by unfold Av;rw[CN,if_pos hB]
  have hlt:=CJ hB;rw[hw,CN,if_pos rfl];simp only[DR.bind]
  split
  ·simp[Ec]
  ·have k:=hI (p+1);have ka:=hA (p+1) hlt;cases e:D (p+1)with
   |ok x q=>
    rw[e]at k ka;have k:I (p+1,none)=(x,(q,none)):=k;rw[k];exact SX hI hS _ _ q (by omega) ka.2 hA
   |bad q e'=>
    rw[e]at k;have k:(I (p+1,none)).2.2=some (e',IJ ts n q):=k;obtain⟨p',b,e2⟩:∃ p' b,(I (p+1,none)).2=(p',some b):=⟨_,_,Prod.ext rfl k⟩;rw[e2,Dc];rw[e2]at k;exact k
def Mc{α:Type}(F:S8→α×S8):Prop:=∀ p b,(F (p,some b)).2=(p,some b)
theorem cT:Mc (Au ts n):=fun p b=>by rw[Dd]
theorem V9:Mc (Bb ts n):=fun p b=>by rw[JY]
theorem Qe:Mc (Cm ts n):=fun p b=>by rw[Kg]
theorem Qp:Mc (Dj ts n):=fun p b=>by rw[Wo]
theorem Q6:Mc (Fh ts n):=fun p b=>FI V9
theorem MN:Mc (AN ts n):=fun p b=>by simp only[AN,Dd,FI Qp]
theorem CG(f:Nat)(l:List Ac)(p:Nat)(b:Int×Int):C8 ts n f l (p,some b)=(l,(p,some b)):=by cases f<;>simp[C8]
theorem EN(f:Nat)(l:List Pt)(p:Nat)(b:Int×Int):Cf ts n f l (p,some b)=(l,(p,some b)):=by cases f<;>simp[Cf,Gi]
theorem FD(p:Nat)(b:Int×Int):CA ts n (p,some b)=([],(p,some b)):=by simp[CA,Gi]
theorem Ga(f:Nat)(l:List Ch)(p:Nat)(b:Int×Int):Dq ts n f l (p,some b)=(l,(p,some b)):=by cases f<;>simp[Dq]
variable {ts:List Tk} {n:Nat}
theorem Ec.bind{α β:Type}{D:DR α}{r:α×S8}(h:Ec ts n D r){F:α→Nat→DR β}{G:α→S8→β×S8}(hG:∀ x q,D=.ok x q→Ec ts n (F x q) (G x (q,none)))(hst:∀ x p b,(G x (p,some b)).2=(p,some b)):
  Ec ts n (D.bind F) (G r.1 r.2):=by
 cases D with
 |ok x q=>
  have h:r=(x,(q,none)):=h;rw[h];exact hG x q rfl
 |bad q e=>
  have h:r.2.2=some (e,IJ ts n q):=h;obtain⟨p',b,e2⟩:∃ p' b,r.2=(p',some b):=⟨_,_,Prod.ext rfl h⟩;show (G r.1 r.2).2.2=_;rw[e2]at h⊢;rw[hst];exact h
theorem fF{p:Nat}(hp:p≤ts.length):Ec ts n (NC ts p) (Hv ts n (p,none)):=by
 refine Ec.bind (G:=fun nm S1=>((⟨nm,(ER ts n (Cm ts n) S1).1⟩:Tg),Av ts n [59] (ER ts n (Cm ts n) S1).2)) Fb (fun nm p1 e=>?_) (fun x p b=>by simp only[FI Qe,Cy]);have a1:=CB hp;rw[e]at a1;refine Ec.bind (G:=fun l S2=>((⟨nm,l⟩:Tg),Av ts n [59] S2)) (NK (fun _=>Zu) Qe (fun _=>KM) a1.2) (fun l p2 e2=>?_) (fun x p b=>by simp only[Cy]);exact Ec.bind (G:=fun _ S3=>((⟨nm,l⟩:Tg),S3)) (Gh (s:=[59]) (p:=p2)) (fun _ p3 _=>rfl) (fun x p b=>rfl)
theorem RO{p:Nat}(hp:p≤ts.length):Ec ts n (Fo ts p) (AN ts n (p,none)):=by
 refine Ec.bind (G:=fun nm S1=>((⟨nm,(ER ts n (Dj ts n) S1).1⟩:Pt),(ER ts n (Dj ts n) S1).2)) Fb (fun nm p1 e=>?_) (fun x p b=>by simp only[FI Qp]);have a1:=CB hp;rw[e]at a1;exact Ec.bind (G:=fun l S2=>((⟨nm,l⟩:Pt),S2)) (NK (fun _=>cG) Qp (fun _=>Rj) a1.2) (fun l p2 e2=>rfl) (fun x p b=>rfl)
theorem SJ{p:Nat}(hp:p≤ts.length):Ec ts n (Mp ts p) (Fh ts n (p,none)):=NK (fun _=>NG) V9 (fun _=>GV) hp
theorem RG{p:Nat}(hp:p≤ts.length):Ec ts n (E6 ts p) (G1 ts n (p,none)):=by
 unfold E6 G1;simp only[CN]
 split
 ·rename_i h;have hl:=CJ h;refine Ec.bind (G:=fun x S1=>((⟨1,x,(Au ts n S1).1,[],(Fh ts n (Au ts n S1).2).1⟩:Ac),(Fh ts n (Au ts n S1).2).2)) NG (fun x p1 e=>?_) (fun x p b=>by simp only[Dd,Q6 p b]);have a1:=GV hl;rw[e]at a1;refine Ec.bind (G:=fun nm S1=>((⟨1,x,nm,[],(Fh ts n S1).1⟩:Ac),(Fh ts n S1).2)) Fb (fun nm p2 e=>?_) (fun x p b=>by simp only[Q6 p b]);have a2:=CB a1.2;rw[e]at a2;exact Ec.bind (G:=fun l S1=>((⟨1,x,nm,[],l⟩:Ac),S1)) (SJ a2.2) (fun l p3 e=>rfl) (fun x p b=>rfl)
 split
 ·refine Ec.bind (G:=fun nm S1=>((⟨2,[],nm,(Au ts n (Av ts n ZX S1)).1,[]⟩:Ac),(Au ts n (Av ts n ZX S1)).2)) Fb (fun nm p1 e=>?_) (fun x p b=>by simp only[Cy,Dd]);refine Ec.bind (G:=fun _ S1=>((⟨2,[],nm,(Au ts n S1).1,[]⟩:Ac),(Au ts n S1).2)) (Gh (s:=ZX) (p:=p1)) (fun _ p2 e=>?_) (fun x p b=>by simp only[Dd]);exact Ec.bind (G:=fun v S1=>((⟨2,[],nm,v,[]⟩:Ac),S1)) Fb (fun v p3 e=>rfl) (fun x p b=>rfl)
 split
 ·rename_i h;exact Ec.bind (G:=fun l S1=>((⟨3,[],[],[],l⟩:Ac),S1)) (SJ (CJ h)) (fun l p3 e=>rfl) (fun x p b=>rfl)
 split
 ·exact Ec.bind (G:=fun nm S1=>((⟨4,[],nm,[],[]⟩:Ac),S1)) Fb (fun l p3 e=>rfl) (fun x p b=>rfl)
 ·simp[Ec,DZ]
theorem T7:∀ (f:Nat) (l:List Ac) (p:Nat),ts.length<f+p→p≤ts.length→Ec ts n (DI ts f l p) (C8 ts n f l (p,none))
 |0,l,p,h,h2=>by omega
 |f+1,l,p,h,h2=>by
  rw[DI,C8];simp only[Option.isSome_none,Bool.false_eq_true,if_false,CN]
  split
  ·simp[Ec]
  ·have a1:=VI h2;refine Ec.bind (G:=fun a S1=>C8 ts n f (l++[a]) (Av ts n [59] S1)) (RG h2) (fun a p1 e=>?_) (fun x p b=>by rw[Cy,CG]);rw[e]at a1;refine Ec.bind (G:=fun _ S1=>C8 ts n f (l++[a]) S1) (Gh (s:=[59]) (p:=p1)) (fun _ p2 e2=>?_) (fun x p b=>by rw[CG]);have a2:=CQ a1.2 [59];rw[e2]at a2;exact T7 f _ p2 (by have:=a1.1;have:=a2.1;omega) a2.2
theorem P6:∀ (f:Nat) (l:List Pt) (p:Nat),ts.length<f+p→p≤ts.length→Ec ts n (D0 ts f l p) (Cf ts n f l (p,none))
 |0,l,p,h,h2=>by omega
 |f+1,l,p,h,h2=>by
  rw[D0,Cf];simp only[CN]
  split
  ·rename_i hB;have hl:=CJ hB;have a1:=HT hl;refine Ec.bind (G:=fun a S1=>Cf ts n f (l++[a]) S1) (RO hl) (fun a p1 e=>?_) (fun x p b=>by rw[EN]);rw[e]at a1;exact P6 f _ p1 (by have:=a1.1;omega) a1.2
  ·simp[Ec]
theorem X1{p:Nat}:Ec ts n (D6 ts p) (CA ts n (p,none)):=by
 unfold D6 CA;rw[CN]
 split
 ·exact NG
 ·simp[Ec]
theorem XP{p:Nat}(hp:p≤ts.length):Ec ts n (FE ts p) (Dk ts n (p,none)):=by
 unfold FE;refine Ec.bind (G:=fun _ S=>((⟨(Au ts n S).1,(Cf ts n (ts.length+1) [(AN ts n (Av ts n [58] (Au ts n S).2)).1] (AN ts n (Av ts n [58] (Au ts n S).2)).2).1,(CA ts n (Cf ts n (ts.length+1) [(AN ts n (Av ts n [58] (Au ts n S).2)).1] (AN ts n (Av ts n [58] (Au ts n S).2)).2).2).1,(C8 ts n (ts.length+1) [] (Av ts n [123] (CA ts n (Cf ts n (ts.length+1) [(AN ts n (Av ts n [58] (Au ts n S).2)).1] (AN ts n (Av ts n [58] (Au ts n S).2)).2).2).2)).1⟩:Ch),(C8 ts n (ts.length+1) [] (Av ts n [123] (CA ts n (Cf ts n (ts.length+1) [(AN ts n (Av ts n [58] (Au ts n S).2)).1] (AN ts n (Av ts n [58] (Au ts n S).2)).2).2).2)).2)) (Gh (s:=Hd) (p:=p)) (fun _ p1 e1=>?_) (fun x p b=>by simp only[Dd,Cy,MN p b,EN,FD,CG]);have a1:=CQ hp Hd;rw[e1]at a1;refine Ec.bind (G:=fun w S=>((⟨w,(Cf ts n (ts.length+1) [(AN ts n (Av ts n [58] S)).1] (AN ts n (Av ts n [58] S)).2).1,(CA ts n (Cf ts n (ts.length+1) [(AN ts n (Av ts n [58] S)).1] (AN ts n (Av ts n [58] S)).2).2).1,(C8 ts n (ts.length+1) [] (Av ts n [123] (CA ts n (Cf ts n (ts.length+1) [(AN ts n (Av ts n [58] S)).1] (AN ts n (Av ts n [58] S)).2).2).2)).1⟩:Ch),(C8 ts n (ts.length+1) [] (Av ts n [123] (CA ts n (Cf ts n (ts.length+1) [(AN ts n (Av ts n [58] S)).1] (AN ts n (Av ts n [58] S)).2).2).2)).2)) Fb (fun w p2 e2=>?_) (fun x p b=>by simp only[Cy,MN p b,EN,FD,CG]);have a2:=CB a1.2;rw[e2]at a2;refine Ec.bind (G:=fun _ S=>((⟨w,(Cf ts n (ts.length+1) [(AN ts n S).1] (AN ts n S).2).1,(CA ts n (Cf ts n (ts.length+1) [(AN ts n S).1] (AN ts n S).2).2).1,(C8 ts n (ts.length+1) [] (Av ts n [123] (CA ts n (Cf ts n (ts.length+1) [(AN ts n S).1] (AN ts n S).2).2).2)).1⟩:Ch),(C8 ts n (ts.length+1) [] (Av ts n [123] (CA ts n (Cf ts n (ts.length+1) [(AN ts n S).1] (AN ts n S).2).2).2)).2)) (Gh (s:=[58]) (p:=p2)) (fun _ p3 e3=>?_) (fun x p b=>by simp only[Cy,MN p b,EN,FD,CG]);have a3:=CQ a2.2 [58];rw[e3]at a3;refine Ec.bind (G:=fun pt S=>((⟨w,(Cf ts n (ts.length+1) [pt] S).1,(CA ts n (Cf ts n (ts.length+1) [pt] S).2).1,(C8 ts n (ts.length+1) [] (Av ts n [123] (CA ts n (Cf ts n (ts.length+1) [pt] S).2).2)).1⟩:Ch),(C8 ts n (ts.length+1) [] (Av ts n [123] (CA ts n (Cf ts n (ts.length+1) [pt] S).2).2)).2)) (RO a3.2) (fun pt p4 e4=>?_) (fun x p b=>by simp only[Cy,EN,FD,CG]);have a4:=HT a3.2;rw[e4]at a4;refine Ec.bind (G:=fun l S=>((⟨w,l,(CA ts n S).1,(C8 ts n (ts.length+1) [] (Av ts n [123] (CA ts n S).2)).1⟩:Ch),(C8 ts n (ts.length+1) [] (Av ts n [123] (CA ts n S).2)).2)) (P6 _ _ p4 (by omega) a4.2) (fun l p5 e5=>?_) (fun x p b=>by simp only[Cy,FD,CG]);refine Ec.bind (G:=fun g S=>((⟨w,l,g,(C8 ts n (ts.length+1) [] (Av ts n [123] S)).1⟩:Ch),(C8 ts n (ts.length+1) [] (Av ts n [123] S)).2)) X1 (fun g p6 e6=>?_) (fun x p b=>by simp only[Cy,CG]);have a5:=LW (ts:=ts) (ts.length+1) [pt] p4 a4.2;rw[e5]at a5;have a6:=Pe a5.2;rw[e6]at a6;unfold Eu
 have hbody:Ec ts n ((AR ts [123] p6).bind fun _ p1=>DI ts (ts.length+1) [] p1) (C8 ts n (ts.length+1) [] (Av ts n [123] (p6,none))):=by
  refine Ec.bind (G:=fun _ S=>C8 ts n (ts.length+1) [] S) (Gh (s:=[123]) (p:=p6)) (fun _ p7 e7=>?_) (fun x p b=>by rw[CG]);have a7:=CQ a6.2 [123];rw[e7]at a7;exact T7 _ _ p7 (by omega) a7.2
 exact Ec.bind (G:=fun b S=>((⟨w,l,g,b⟩:Ch),S)) hbody (fun b p7 e7=>rfl) (fun x p b=>rfl)
theorem NW:∀ (f:Nat) (l:List Ch) (p:Nat),ts.length<f+p→p≤ts.length→Ec ts n (D4 ts f l p) (Dq ts n f l (p,none))
 |0,l,p,h,h2=>by omega
 |f+1,l,p,h,h2=>by
  rw[D4,Dq];simp only[Option.isSome_none,Bool.false_eq_true,if_false,CN]
  split
  ·simp[Ec]
  ·have a1:=L8 h2;refine Ec.bind (G:=fun a S1=>Dq ts n f (l++[a]) S1) (XP h2) (fun a p1 e=>?_) (fun x p b=>by rw[Ga]);rw[e]at a1;exact NW f _ p1 (by have:=a1.1;omega) a1.2
theorem Xo{p:Nat}(hp:p≤ts.length):Ec ts n (FK ts p) (Rp ts n (p,none)):=by
 unfold FK;refine Ec.bind (G:=fun _ S=>((⟨(Au ts n S).1,(Dq ts n (ts.length+1) [] (Av ts n [123] (Au ts n S).2)).1⟩:Kd),(Dq ts n (ts.length+1) [] (Av ts n [123] (Au ts n S).2)).2)) (Gh (s:=IH) (p:=p)) (fun _ p1 e1=>?_) (fun x p b=>by simp only[Dd,Cy,Ga]);refine Ec.bind (G:=fun w S=>((⟨w,(Dq ts n (ts.length+1) [] (Av ts n [123] S)).1⟩:Kd),(Dq ts n (ts.length+1) [] (Av ts n [123] S)).2)) Fb (fun w p2 e2=>?_) (fun x p b=>by simp only[Cy,Ga]);refine Ec.bind (G:=fun _ S=>((⟨w,(Dq ts n (ts.length+1) [] S).1⟩:Kd),(Dq ts n (ts.length+1) [] S).2)) (Gh (s:=[123]) (p:=p2)) (fun _ p3 e3=>?_) (fun x p b=>by simp only[Ga]);have a1:=CQ hp IH;rw[e1]at a1;have a2:=CB a1.2;rw[e2]at a2;have a3:=CQ a2.2 [123];rw[e3]at a3;exact Ec.bind (G:=fun l S=>((⟨w,l⟩:Kd),S)) (NW _ _ p3 (by omega) a3.2) (fun l p4 e4=>rfl) (fun x p b=>rfl)
theorem LL(f:Nat)(g:Pg)(p:Nat)(b:Int×Int):H7 ts n f g (p,some b)=(g,(p,some b)):=by cases f<;>simp[H7]
theorem Np:∀ (f:Nat) (g:Pg) (p:Nat),ts.length<f+p→p≤ts.length→Ec ts n (E1 ts f g p) (H7 ts n f g (p,none))
 |0,l,p,h,h2=>by omega
 |f+1,g,p,h,h2=>by
  rw[E1,H7];simp only[Option.isNone_none,true_and,CN]
  split
  ·split
   ·rename_i hB;have hl:=CJ hB;have a1:=QC hl;refine Ec.bind (G:=fun a S1=>H7 ts n f ⟨g.tags++[a],g.kinds⟩ S1) (fF hl) (fun a p1 e=>?_) (fun x p b=>by rw[LL]);rw[e]at a1;exact Np f _ p1 (by have:=a1.1;omega) a1.2
   ·have a1:=Pr h2;refine Ec.bind (G:=fun a S1=>H7 ts n f ⟨g.tags,g.kinds++[a]⟩ S1) (Xo h2) (fun a p1 e=>?_) (fun x p b=>by rw[LL]);rw[e]at a1;exact Np f _ p1 (by have:=a1.1;omega) a1.2
  ·simp[Ec]
end Go.Proofs.YtlobiioioicmhaaGreatDoor
