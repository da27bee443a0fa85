/- A part of the proof. -/
import Derived.Test.YtlobiioioicmhaaGreatDoorBQ9
set_option linter.all false
set_option maxHeartbeats 8000000
namespace Go.Proofs.YtlobiioioicmhaaGreatDoor
open _root_.Bool renaming not_true→Bv,not_false→Bf
open _root_.List renaming getElem?_eq_some_iff→Bs,getElem?_append_left→Ba,getElem?_set_self→Be,getElem?_set_ne→Bn,length_set→Bl,length_append→Bp,append_assoc→Bo,cons_append→Bc,nil_append→Bi,getElem?_cons_zero→Bz,getElem?_cons_succ→Bu,getElem?_eq_none→Bq,set_append_left→Bg,take_of_length_le→Bt,length_drop→Bd,length_take→Bh,prefix_rfl→BB,flatMap_cons→BE,mem_cons→BI,getElem?_toArray→BU,set_append_right→BV
open _root_.Nat renaming le_refl→BL,le_trans→BM,zero_le→BN,lt_of_lt_of_le→BO
open Go.Proofs.Tryz renaming prog→Tp
open Go Go.Ev
structure Pt where
 tag:List UInt8
 vars:List (List UInt8)
structure Ac where
 kind:Int
 to:List Nd
 name:List UInt8
 var:List UInt8
 args:List (List Nd)
structure Ch where
 name:List UInt8
 parts:List Pt
 guard:List Nd
 body:List Ac
structure Tg where
 name:List UInt8
 types:List Int
structure Kd where
 name:List UInt8
 chords:List Ch
structure Pg where
 tags:List Tg
 kinds:List Kd
def slA(n:Nat)(cs:List AV):AV:=match n with
 |0=>.v (.slice none 0 0)
 |_+1=>.sl false n n cs
def strC(s:List UInt8):AV:=.v (.string ⟨s.toArray⟩)
def strsA(l:List (List UInt8)):AV:=slA l.length (l.map strC)
def intC(k:Int):AV:=.v (.int .i64 k)
def intsA(l:List Int):AV:=slA l.length (l.map intC)
def expsA(l:List (List Nd)):AV:=slA l.length (l.map nodesA)
def Pt.cells(p:Pt):List AV:=[strC p.tag,strsA p.vars]
def partsA(l:List Pt):AV:=slA l.length (l.flatMap Pt.cells)
def Ac.cells(a:Ac):List AV:=[intC a.kind,nodesA a.to,strC a.name,strC a.var,expsA a.args]
def actsA(l:List Ac):AV:=slA l.length (l.flatMap Ac.cells)
def Ch.cells(c:Ch):List AV:=[strC c.name,partsA c.parts,nodesA c.guard,actsA c.body]
def chordsA(l:List Ch):AV:=slA l.length (l.flatMap Ch.cells)
def Tg.cells(t:Tg):List AV:=[strC t.name,intsA t.types]
def tagsA(l:List Tg):AV:=slA l.length (l.flatMap Tg.cells)
def Kd.cells(k:Kd):List AV:=[strC k.name,chordsA k.chords]
def kindsA(l:List Kd):AV:=slA l.length (l.flatMap Kd.cells)
def Pg.cells(p:Pg):List AV:=[tagsA p.tags,kindsA p.kinds]
inductive DR(α:Type) where
 |ok (x:α) (p:Nat)
 |bad (q:Nat) (e:Int)
def DR.bind{α β:Type}(r:DR α)(f:α→Nat→DR β):DR β:=match r with
 |.ok x p=>f x p
 |.bad q e=>.bad q e
def kTag:List UInt8:=[116,97,103]
def kKind:List UInt8:=[107,105,110,100]
def kChord:List UInt8:=[99,104,111,114,100]
def kWhen:List UInt8:=[119,104,101,110]
def kSend:List UInt8:=[115,101,110,100]
def kSpawn:List UInt8:=[115,112,97,119,110]
def kAs:List UInt8:=[97,115]
def kReply:List UInt8:=[114,101,112,108,121]
def kBecome:List UInt8:=[98,101,99,111,109,101]
def kws:List (List UInt8):=[kTag,kKind,kChord,kWhen,kSend,kSpawn,kAs,kReply,kBecome]
def kwB(s:List UInt8):Bool:=decide (s∈kws)
def isB(ts:List Tk)(p:Nat)(s:List UInt8):Bool:=match ts[p]? with
 |some t=>decide ((t.kind=5∨t.kind=1)∧t.text=s)
 |none=>false
def wantD(ts:List Tk)(s:List UInt8)(p:Nat):DR Unit:=if isB ts p s=true then .ok () (p+1)else .bad p 80
def wordD(ts:List Tk)(p:Nat):DR (List UInt8):=match ts[p]? with
 |some t=>if t.kind=1∧kwB t.text=false then .ok t.text (p+1)else .bad p 80
 |none=>.bad p 80
def exprD(ts:List Tk)(p:Nat):DR (List Nd):=if (readR ts p).2.2=0 then .ok (readR ts p).1 (readR ts p).2.1.toNat else .bad (readR ts p).2.1.toNat (readR ts p).2.2
def kindD(ts:List Tk)(p:Nat):DR Int:=match ts[p]? with
 |some t=>if t.kind=1∧(typeF t.text).2=true∧(typeF t.text).1≠5 then .ok (typeF t.text).1 (p+1)else .bad p 80
 |none=>.bad p 80
def varD(ts:List Tk)(p:Nat):DR (List UInt8):=if isB ts p [95]=true then .ok [95] (p+1)else wordD ts p
def moreD{α:Type}(ts:List Tk)(I:Nat→DR α):Nat→List α→Nat→DR (List α)
 |0,_,p=>.bad p 80
 |f+1,l,p=>if isB ts p [41]=true then .ok l (p+1)else if isB ts p [44]=true then (I (p+1)).bind fun x q=>moreD ts I f (l++[x]) q else .bad p 80
def listD{α:Type}(ts:List Tk)(I:Nat→DR α)(p:Nat):DR (List α):=
 (wantD ts [40] p).bind fun _ p1=>if isB ts p1 [41]=true then .ok [] (p1+1)else (I p1).bind fun x q=>moreD ts I (ts.length+1) [x] q
def argsD(ts:List Tk)(p:Nat):DR (List (List Nd)):=listD ts (exprD ts) p
def tagD(ts:List Tk)(p:Nat):DR Tg:=(wordD ts p).bind fun n p1=>(listD ts (kindD ts) p1).bind fun l p2=>(wantD ts [59] p2).bind fun _ p3=>.ok ⟨n,l⟩ p3
def partD(ts:List Tk)(p:Nat):DR Pt:=(wordD ts p).bind fun n p1=>(listD ts (varD ts) p1).bind fun l p2=>.ok ⟨n,l⟩ p2
def actD(ts:List Tk)(p:Nat):DR Ac:=
 if isB ts p kSend=true then (exprD ts (p+1)).bind fun x p1=>(wordD ts p1).bind fun n p2=>(argsD ts p2).bind fun l p3=>.ok ⟨1,x,n,[],l⟩ p3
 else if isB ts p kSpawn=true then (wordD ts (p+1)).bind fun n p1=>(wantD ts kAs p1).bind fun _ p2=>(wordD ts p2).bind fun v p3=>.ok ⟨2,[],n,v,[]⟩ p3
 else if isB ts p kReply=true then (argsD ts (p+1)).bind fun l p1=>.ok ⟨3,[],[],[],l⟩ p1
 else if isB ts p kBecome=true then (wordD ts (p+1)).bind fun n p1=>.ok ⟨4,[],n,[],[]⟩ p1
 else .bad p 80
def actsD(ts:List Tk):Nat→List Ac→Nat→DR (List Ac)
 |0,_,p=>.bad p 80
 |f+1,l,p=>if isB ts p [125]=true then .ok l (p+1)else (actD ts p).bind fun a p1=>(wantD ts [59] p1).bind fun _ p2=>actsD ts f (l++[a]) p2
def bodyD(ts:List Tk)(p:Nat):DR (List Ac):=(wantD ts [123] p).bind fun _ p1=>actsD ts (ts.length+1) [] p1
def partsD(ts:List Tk):Nat→List Pt→Nat→DR (List Pt)
 |0,_,p=>.bad p 80
 |f+1,l,p=>if isB ts p [38]=true then (partD ts (p+1)).bind fun x q=>partsD ts f (l++[x]) q else .ok l p
def guardD(ts:List Tk)(p:Nat):DR (List Nd):=if isB ts p kWhen=true then exprD ts (p+1)else .ok [] p
def chordD(ts:List Tk)(p:Nat):DR Ch:=
 (wantD ts kChord p).bind fun _ p1=>(wordD ts p1).bind fun n p2=>(wantD ts [58] p2).bind fun _ p3=>(partD ts p3).bind fun x p4=>(partsD ts (ts.length+1) [x] p4).bind fun l p5=>(guardD ts p5).bind fun g p6=>(bodyD ts p6).bind fun b p7=>.ok ⟨n,l,g,b⟩ p7
def chordsD(ts:List Tk):Nat→List Ch→Nat→DR (List Ch)
 |0,_,p=>.bad p 80
 |f+1,l,p=>if isB ts p [125]=true then .ok l (p+1)else (chordD ts p).bind fun c q=>chordsD ts f (l++[c]) q
def kindD2(ts:List Tk)(p:Nat):DR Kd:=
 (wantD ts kKind p).bind fun _ p1=>(wordD ts p1).bind fun n p2=>(wantD ts [123] p2).bind fun _ p3=>(chordsD ts (ts.length+1) [] p3).bind fun l p4=>.ok ⟨n,l⟩ p4
def progD(ts:List Tk):Nat→Pg→Nat→DR Pg
 |0,_,p=>.bad p 80
 |f+1,g,p=>if p<ts.length then (if isB ts p kTag=true then (tagD ts (p+1)).bind fun t q=>progD ts f ⟨g.tags++[t],g.kinds⟩ q else (kindD2 ts p).bind fun k q=>progD ts f ⟨g.tags,g.kinds++[k]⟩ q)else .ok g p
def DR.adv{α:Type}(ts:List Tk)(p k:Nat):DR α→Prop
 |.ok _ q=>p+k≤q∧q≤ts.length
 |.bad q e=>q≤ts.length∧e≠0
theorem DR.adv_bind{α β:Type}{ts:List Tk}{p k:Nat}{r:DR α}{f:α→Nat→DR β}{j:Nat}(h:r.adv ts p j)(hf:∀ x q,r=.ok x q→p+j≤q→q≤ts.length→(f x q).adv ts p k):(r.bind f).adv ts p k:=by
 cases r with
 |ok x q=>exact hf x q rfl h.1 h.2
 |bad q e=>exact h
theorem DR.adv.le{α:Type}{ts:List Tk}{p p' k k':Nat}{r:DR α}(h:r.adv ts p k)(hk:p'+k'≤p+k):r.adv ts p' k':=by
 cases r with
 |ok x q=>exact⟨BM hk h.1,h.2⟩
 |bad q e=>exact h
theorem isB_lt{ts:List Tk}{p:Nat}{s:List UInt8}(h:isB ts p s=true):p<ts.length:=by
 unfold isB at h;cases e:ts[p]? with
 |none=>rw[e]at h;cases h
 |some t=>exact (Bs.1 e).1
theorem want_adv{ts:List Tk}{p:Nat}(hp:p≤ts.length)(s:List UInt8):(wantD ts s p).adv ts p 1:=by
 unfold wantD
 split
 ·rename_i h;exact⟨BL _,isB_lt h⟩
 ·exact⟨hp,by decide⟩
theorem word_adv{ts:List Tk}{p:Nat}(hp:p≤ts.length):(wordD ts p).adv ts p 1:=by
 unfold wordD
 split
 ·rename_i t e;have:=(Bs.1 e).1
  split
  ·exact⟨BL _,this⟩
  ·exact⟨hp,by decide⟩
 ·exact⟨hp,by decide⟩
theorem kind_adv{ts:List Tk}{p:Nat}(hp:p≤ts.length):(kindD ts p).adv ts p 1:=by
 unfold kindD
 split
 ·rename_i t e;have:=(Bs.1 e).1
  split
  ·exact⟨BL _,this⟩
  ·exact⟨hp,by decide⟩
 ·exact⟨hp,by decide⟩
theorem var_adv{ts:List Tk}{p:Nat}(hp:p≤ts.length):(varD ts p).adv ts p 1:=by
 unfold varD
 split
 ·rename_i h;exact⟨BL _,isB_lt h⟩
 ·exact word_adv hp
theorem pr_badq(ts:List Tk):∀ (f:Nat) (m:Md) (p q:Nat),p≤ts.length→pr ts f m p=.bad q→q≤ts.length:=by
 intro f
 induction f with
 |zero=>intro m p q hp h;cases m<;>(cases h;exact hp)
 |succ f ih=>
  intro m p q hp h;have adv:=pr_adv ts f;cases m with
  |bin n=>
   rw[pr]at h
   split at h
   ·exact ih _ _ _ hp h
   ·split at h
    ·rename_i e;cases h;exact ih _ _ _ hp e
    ·rename_i e;exact ih _ _ _ (adv _ _ _ _ hp e).2 h
  |lp n a=>
   rw[pr]at h
   split at h
   ·cases h
   ·rename_i hk;have hlt:=opK_lt (fun e=>hk (.inl e))
    split at h
    ·rename_i e;cases h;exact ih _ _ _ (by omega) e
    ·rename_i e
     split at h
     ·cases h
     ·exact ih _ _ _ (adv _ _ _ _ (by omega) e).2 h
  |un=>
   rw[pr]at h
   split at h
   ·rename_i hm;have hlt:p<ts.length:=hm.elim mkA_eq mkA_eq
    split at h
    ·rename_i e;cases h;exact ih _ _ _ (by omega) e
    ·cases h
   ·exact ih _ _ _ hp h
  |fs=>
   rw[pr]at h
   split at h
   ·rename_i hm;have hlt:p<ts.length:=mkA_eq hm
    split at h
    ·rename_i e;cases h;exact ih _ _ _ (by omega) e
    ·rename_i e
     split at h
     ·cases h
     ·cases h;exact (adv _ _ _ _ (by omega) e).2
   ·split at h
    ·cases h;exact hp
    ·rename_i t e;have hlt:p<ts.length:=(Bs.1 e).1
     repeat' split at h
     all_goals first|(cases h;done)|(cases h;exact hp)|exact ih _ _ _ (by omega) h
  |nm s=>
   rw[pr]at h
   split at h
   ·cases h
   split at h
   ·cases h
   split at h
   ·cases h
   split at h
   ·cases h;exact hp
   rename_i hm;have hlt:p<ts.length:=mkA_eq (Decidable.not_not.1 hm)
   split at h
   ·rename_i e;cases h;exact ih _ _ _ (by omega) e
   rename_i e;have h1:=(adv _ _ _ _ (by omega) e).2
   split at h
   ·split at h
    ·cases h;exact h1
    rename_i hm2;have hlt2:=mkA_eq (Decidable.not_not.1 hm2)
    split at h
    ·rename_i e2;cases h;exact ih _ _ _ (by omega) e2
    ·rename_i e2
     split at h
     ·cases h
     ·cases h;exact (adv _ _ _ _ (by omega) e2).2
   ·split at h
    ·cases h
    ·cases h;exact h1
theorem readR_adv{ts:List Tk}{p:Nat}(hp:p≤ts.length):((readR ts p).2.2=0→(p:Int)<(readR ts p).2.1)∧0≤(readR ts p).2.1∧(readR ts p).2.1≤ts.length:=by
 unfold readR;rw[if_neg (by omega),Int.toNat_natCast];have hc:=cutN_le hp;have hcl:(ts.take (cutN ts p)).length=cutN ts p:=by rw[Bh];omega
 have hpc:p≤(ts.take (cutN ts p)).length:=by rw[hcl];unfold cutN;omega
 cases e:readP (ts.take (cutN ts p)) p with
 |bad q=>
  have:=pr_badq _ _ _ _ _ hpc e
  dsimp only
  exact⟨fun h=>absurd h (by decide),by omega,by omega⟩
 |ok t q=>
  obtain⟨⟨h1,_⟩,h2⟩:=pr_adv _ _ _ _ _ _ hpc e
  dsimp only
  split
  ·dsimp only
   exact⟨fun _=>by omega,by omega,by omega⟩
  ·rename_i hk
   dsimp only
   exact⟨fun h=>absurd h hk,by omega,by omega⟩
theorem expr_adv{ts:List Tk}{p:Nat}(hp:p≤ts.length):(exprD ts p).adv ts p 1:=by
 obtain⟨h1,h2,h3⟩:=readR_adv hp;unfold exprD
 split
 ·rename_i h;have:=h1 h;exact⟨by omega,by omega⟩
 ·rename_i h;exact⟨by omega,h⟩
theorem more_adv{α:Type}{ts:List Tk}{I:Nat→DR α}(hI:∀ p,p≤ts.length→(I p).adv ts p 1):∀ (f:Nat) (l:List α) (p:Nat),p≤ts.length→(moreD ts I f l p).adv ts p 1
 |0,l,p,hp=>⟨hp,by decide⟩
 |f+1,l,p,hp=>by
  rw[moreD]
  split
  ·rename_i h;exact⟨BL _,isB_lt h⟩
  split
  ·rename_i h;have:=isB_lt h;exact DR.adv_bind (j:=2) ((hI (p+1) this).le (by omega)) fun x q _ h1 h2=>(more_adv hI f _ q h2).le (by omega)
  ·exact⟨hp,by decide⟩
theorem list_adv{α:Type}{ts:List Tk}{I:Nat→DR α}(hI:∀ p,p≤ts.length→(I p).adv ts p 1){p:Nat}(hp:p≤ts.length):(listD ts I p).adv ts p 1:=by
 unfold listD;refine DR.adv_bind (want_adv hp _) fun _ p1 _ h1 h2=>?_
 split
 ·rename_i h;exact⟨by omega,isB_lt h⟩
 ·exact DR.adv_bind (j:=2) ((hI p1 h2).le (by omega)) fun x q _ h3 h4=>(more_adv hI _ _ q h4).le (by omega)
theorem args_adv{ts:List Tk}{p:Nat}(hp:p≤ts.length):(argsD ts p).adv ts p 1:=list_adv (fun _=>expr_adv) hp
theorem tag_adv{ts:List Tk}{p:Nat}(hp:p≤ts.length):(tagD ts p).adv ts p 1:=by
 unfold tagD;refine DR.adv_bind (word_adv hp) fun n p1 _ h1 h2=>?_
 refine DR.adv_bind (j:=2) ((list_adv (fun _=>kind_adv) h2).le (by omega)) fun n p2 _ h3 h4=>?_
 exact DR.adv_bind (j:=2) ((want_adv h4 _).le (by omega)) fun n p3 _ h5 h6=>⟨by omega,h6⟩
theorem part_adv{ts:List Tk}{p:Nat}(hp:p≤ts.length):(partD ts p).adv ts p 1:=by
 unfold partD;refine DR.adv_bind (word_adv hp) fun n p1 _ h1 h2=>?_
 exact DR.adv_bind (j:=2) ((list_adv (fun _=>var_adv) h2).le (by omega)) fun n p2 _ h3 h4=>⟨by omega,h4⟩
theorem act_adv{ts:List Tk}{p:Nat}(hp:p≤ts.length):(actD ts p).adv ts p 1:=by
 unfold actD
 split
 ·rename_i h;have hl:=isB_lt h;refine DR.adv_bind (j:=2) ((expr_adv hl).le (by omega)) fun n p1 _ h1 h2=>?_
  refine DR.adv_bind (j:=2) ((word_adv h2).le (by omega)) fun n p1 _ h1 h2=>?_
  exact DR.adv_bind (j:=2) ((args_adv h2).le (by omega)) fun n p1 _ h1 h2=>⟨by omega,h2⟩
 split
 ·rename_i h;have hl:=isB_lt h;refine DR.adv_bind (j:=2) ((word_adv hl).le (by omega)) fun n p1 _ h1 h2=>?_
  refine DR.adv_bind (j:=2) ((want_adv h2 _).le (by omega)) fun n p1 _ h1 h2=>?_
  exact DR.adv_bind (j:=2) ((word_adv h2).le (by omega)) fun n p1 _ h1 h2=>⟨by omega,h2⟩
 split
 ·rename_i h;have hl:=isB_lt h;exact DR.adv_bind (j:=2) ((args_adv hl).le (by omega)) fun n p1 _ h1 h2=>⟨by omega,h2⟩
 split
 ·rename_i h;have hl:=isB_lt h;exact DR.adv_bind (j:=2) ((word_adv hl).le (by omega)) fun n p1 _ h1 h2=>⟨by omega,h2⟩
 ·exact⟨hp,by decide⟩
theorem acts_adv{ts:List Tk}:∀ (f:Nat) (l:List Ac) (p:Nat),p≤ts.length→(actsD ts f l p).adv ts p 1
 |0,l,p,hp=>⟨hp,by decide⟩
 |f+1,l,p,hp=>by
  rw[actsD]
  split
  ·rename_i h;exact⟨BL _,isB_lt h⟩
  ·refine DR.adv_bind (act_adv hp) fun a p1 _ h1 h2=>?_
   refine DR.adv_bind (j:=2) ((want_adv h2 _).le (by omega)) fun _ p2 _ h3 h4=>?_
   exact (acts_adv f _ p2 h4).le (by omega)
theorem body_adv{ts:List Tk}{p:Nat}(hp:p≤ts.length):(bodyD ts p).adv ts p 1:=by
 unfold bodyD;exact DR.adv_bind (want_adv hp _) fun _ p1 _ h1 h2=>(acts_adv _ _ p1 h2).le (by omega)
theorem parts_adv{ts:List Tk}:∀ (f:Nat) (l:List Pt) (p:Nat),p≤ts.length→(partsD ts f l p).adv ts p 0
 |0,l,p,hp=>⟨hp,by decide⟩
 |f+1,l,p,hp=>by
  rw[partsD]
  split
  ·rename_i h;exact DR.adv_bind (j:=2) ((part_adv (isB_lt h)).le (by omega)) fun x q _ h1 h2=>(parts_adv f _ q h2).le (by omega)
  ·exact⟨BL _,hp⟩
theorem guard_adv{ts:List Tk}{p:Nat}(hp:p≤ts.length):(guardD ts p).adv ts p 0:=by
 unfold guardD
 split
 ·rename_i h;exact (expr_adv (isB_lt h)).le (by omega)
 ·exact⟨BL _,hp⟩
theorem chord_adv{ts:List Tk}{p:Nat}(hp:p≤ts.length):(chordD ts p).adv ts p 1:=by
 unfold chordD;refine DR.adv_bind (want_adv hp _) fun _ p1 _ h1 h2=>?_
 refine DR.adv_bind (j:=2) ((word_adv h2).le (by omega)) fun n p2 _ h3 h4=>?_
 refine DR.adv_bind (j:=2) ((want_adv h4 _).le (by omega)) fun _ p3 _ h5 h6=>?_
 refine DR.adv_bind (j:=2) ((part_adv h6).le (by omega)) fun _ p4 _ h7 h8=>?_
 refine DR.adv_bind (j:=2) ((parts_adv _ _ _ h8).le (by omega)) fun _ p5 _ h9 h10=>?_
 refine DR.adv_bind (j:=2) ((guard_adv h10).le (by omega)) fun _ p6 _ h11 h12=>?_
 exact DR.adv_bind (j:=2) ((body_adv h12).le (by omega)) fun _ p7 _ h13 h14=>⟨by omega,h14⟩
theorem chords_adv{ts:List Tk}:∀ (f:Nat) (l:List Ch) (p:Nat),p≤ts.length→(chordsD ts f l p).adv ts p 1
 |0,l,p,hp=>⟨hp,by decide⟩
 |f+1,l,p,hp=>by
  rw[chordsD]
  split
  ·rename_i h;exact⟨BL _,isB_lt h⟩
  ·exact DR.adv_bind (chord_adv hp) fun a p1 _ h1 h2=>(chords_adv f _ p1 h2).le (by omega)
theorem kind2_adv{ts:List Tk}{p:Nat}(hp:p≤ts.length):(kindD2 ts p).adv ts p 1:=by
 unfold kindD2;refine DR.adv_bind (want_adv hp _) fun _ p1 _ h1 h2=>?_
 refine DR.adv_bind (j:=2) ((word_adv h2).le (by omega)) fun n p2 _ h3 h4=>?_
 refine DR.adv_bind (j:=2) ((want_adv h4 _).le (by omega)) fun _ p3 _ h5 h6=>?_
 exact DR.adv_bind (j:=2) ((chords_adv _ _ _ h6).le (by omega)) fun _ p4 _ h7 h8=>⟨by omega,h8⟩
theorem prog_adv{ts:List Tk}:∀ (f:Nat) (g:Pg) (p:Nat),p≤ts.length→(progD ts f g p).adv ts p 0
 |0,l,p,hp=>⟨hp,by decide⟩
 |f+1,l,p,hp=>by
  rw[progD]
  split
  ·split
   ·rename_i h;exact DR.adv_bind (j:=2) ((tag_adv (isB_lt h)).le (by omega)) fun a p1 _ h1 h2=>(prog_adv f _ p1 h2).le (by omega)
   ·exact DR.adv_bind (kind2_adv hp) fun a p1 _ h1 h2=>(prog_adv f _ p1 h2).le (by omega)
  ·exact⟨by omega,hp⟩
def Rd(S:Nat→Prop)(h:List ABlk)(y x:AV):Prop:=∀ h',Fr S h h'→fz Tp h' false y x
def RdL(S:Nat→Prop)(h:List ABlk)(ys xs:List AV):Prop:=∀ h',Fr S h h'→fzL Tp h' false ys xs
def Old(n:Nat)(k:Nat):Prop:=k<n
theorem Rd.fz{S:Nat→Prop}{h:List ABlk}{y x:AV}(a:Rd S h y x):Go.Ev.fz Tp h false y x:=a h (Fr.refl _ _)
theorem RdL.fz{S:Nat→Prop}{h:List ABlk}{y x:List AV}(a:RdL S h y x):fzL Tp h false y x:=a h (Fr.refl _ _)
theorem Fr.up{S S' S1:Nat→Prop}{m:Nat}{h2 h3 h4:List ABlk}(f:Fr S1 h2 h3)(h1:∀ k,S1 k→k<h2.length→S k)(h1':∀ k,S' k→k<h2.length→S k)(g:Fr S' h3 h4):Fr S h2 h4:=
 ⟨BM f.1 g.1,fun k hk hn=>(g.2 k (BO hk f.1) fun e=>hn (h1' k e hk)).trans (f.2 k hk fun e=>hn (h1 k e hk))⟩
theorem Rd.up{S S' S1:Nat→Prop}{h2 h3:List ABlk}{y x:AV}(a:Rd S h2 y x)(f:Fr S1 h2 h3)(h1:∀ k,S1 k→k<h2.length→S k)(h1':∀ k,S' k→k<h2.length→S k):Rd S' h3 y x:=
 fun h4 g=>a h4 (Fr.up (m:=0) f h1 h1' g)
theorem RdL.up{S S' S1:Nat→Prop}{h2 h3:List ABlk}{y x:List AV}(a:RdL S h2 y x)(f:Fr S1 h2 h3)(h1:∀ k,S1 k→k<h2.length→S k)(h1':∀ k,S' k→k<h2.length→S k):RdL S' h3 y x:=
 fun h4 g=>a h4 (Fr.up (m:=0) f h1 h1' g)
theorem RdL.nil{S:Nat→Prop}{h:List ABlk}:RdL S h [] []:=fun _ _=>by simp only[fzL]
theorem RdL.cons{S:Nat→Prop}{h:List ABlk}{y x:AV}{ys xs:List AV}(a:Rd S h y x)(b:RdL S h ys xs):RdL S h (y::ys) (x::xs):=fun h' f=>by
 simp only[fzL];exact⟨_,_,rfl,a h' f,b h' f⟩
theorem fzL_append{P:Program}{H:List ABlk}{b:Bool}:∀ {ys xs ys' xs':List AV},fzL P H b ys xs→fzL P H b ys' xs'→fzL P H b (ys++ys') (xs++xs')
 |[],xs,ys',xs',h1,h2=>by simp only[fzL]at h1;subst h1;exact h2
 |y::ys,xs,ys',xs',h1,h2=>by
  simp only[fzL]at h1;obtain⟨x,xs1,rfl,e1,e2⟩:=h1;simp only[Bc,fzL];exact⟨_,_,rfl,e1,fzL_append e2 h2⟩
theorem RdL.append{S:Nat→Prop}{h:List ABlk}{ys xs ys' xs':List AV}(a:RdL S h ys xs)(b:RdL S h ys' xs'):RdL S h (ys++ys') (xs++xs'):=fun h' f=>fzL_append (a h' f) (b h' f)
theorem Rd.val{S:Nat→Prop}{h:List ABlk}(v:Value):Rd S h (.v v) (.v v):=fun _ _=>by simp only[Go.Ev.fz]
theorem Rd.str{S:Nat→Prop}{h:List ABlk}(s:List UInt8):Rd S h (strC s) (strC s):=Rd.val _
theorem Rd.int{S:Nat→Prop}{h:List ABlk}(k:Int):Rd S h (intC k) (intC k):=Rd.val _
theorem Rd.sl{S:Nat→Prop}{h:List ABlk}(b:Bool)(n m:Nat)(cs:List AV):Rd S h (.sl b n m cs) (.sl b n m cs):=fun _ _=>by simp only[Go.Ev.fz,true_or]
theorem Rd.nodes{S:Nat→Prop}{h:List ABlk}(l:List Nd):Rd S h (nodesA l) (nodesA l):=by
 cases l with
 |nil=>exact Rd.val _
 |cons x l=>exact Rd.sl _ _ _ _
theorem Rd.agg{S:Nat→Prop}{h:List ABlk}{ys xs:List AV}(a:RdL S h ys xs):Rd S h (.agg ys) (.agg xs):=fun h' f=>by
 simp only[Go.Ev.fz];exact⟨_,rfl,a h' f⟩
def GL(n0:Nat)(t:TypeId)(sz:Nat)(h:List ABlk)(N:AV)(n:Nat)(ys:List AV):Prop:=
 (N=.v (.slice none 0 0)∧n=0∧ys=[])∨∃ j ver xs,N=.own j ver n∧0<n∧n0≤j∧h[j]?=some ⟨ver,t,xs⟩∧xs.length=n * sz∧RdL (fun k=>k<n0∨k=j) h ys xs
theorem GL.nil{n0:Nat}{t:TypeId}{sz:Nat}{h:List ABlk}:GL n0 t sz h (.v (.slice none 0 0)) 0 []:=.inl ⟨rfl,rfl,rfl⟩
theorem GL.fr{n0:Nat}{t:TypeId}{sz:Nat}{h h':List ABlk}{N:AV}{n:Nat}{ys:List AV}{S:Nat→Prop}(a:GL n0 t sz h N n ys)(f:Fr S h h')(hS:∀ k,S k→k<h.length→k<n0∧¬nbk N k):GL n0 t sz h' N n ys:=by
 rcases a with a|⟨j,ver,xs,rfl,hn,hj0,hj,hl,hr⟩
 ·exact .inl a
 ·have hjl:=(Bs.1 hj).1;exact .inr ⟨j,ver,xs,rfl,hn,hj0,f.at hj (fun e=>(hS j e hjl).2 rfl),hl,hr.up f (fun k e hk=>.inl (hS k e hk).1) (fun k e _=>e)⟩
theorem GL.lt{n0:Nat}{t:TypeId}{sz:Nat}{h:List ABlk}{N:AV}{n:Nat}{ys:List AV}(a:GL n0 t sz h N n ys){k:Nat}(hk:nbk N k):n0≤k∧k<h.length:=by
 rcases a with⟨rfl,_⟩|⟨j,ver,xs,rfl,hn,hj0,hj,hl,hr⟩
 ·exact hk.elim
 ·have hk':k=j:=hk;subst hk';exact⟨hj0,(Bs.1 hj).1⟩
theorem GL.fr0{n0:Nat}{t:TypeId}{sz:Nat}{h h':List ABlk}{N:AV}{n:Nat}{ys:List AV}{S:Nat→Prop}(a:GL n0 t sz h N n ys)(f:Fr S h h')(hS:∀ k,S k→k<n0):GL n0 t sz h' N n ys:=
 a.fr f fun k e _=>⟨hS k e,fun hk=>by have:=(a.lt hk).1;have:=hS k e;omega⟩
theorem GL.rd{n0:Nat}{t:TypeId}{sz:Nat}{h:List ABlk}{N:AV}{n:Nat}{ys:List AV}(a:GL n0 t sz h N n ys):Rd (Old n0) h (slA n ys) N:=by
 rcases a with⟨rfl,rfl,rfl⟩|⟨j,ver,xs,rfl,hn,hj0,hj,hl,hr⟩
 ·exact Rd.val _
 ·intro h' f;obtain⟨n,rfl⟩:∃ m,n=m+1:=⟨n-1,by omega⟩;have hj':=f.at hj (fun e=>by have:j<n0:=e;omega);simp only[slA,Go.Ev.fz];exact .inr ⟨trivial,j,_,xs,rfl,hj',BL _,.inl trivial,BB,hr h' (f.mono fun k e=>.inl e)⟩
theorem GL.push{n0:Nat}{t:TypeId}{sz:Nat}{h h':List ABlk}{N:AV}{n:Nat}{ys es ecs:List AV}{j' ver':Nat}{xs:List AV}(a:GL n0 t sz h N n ys)
  (hx:∀ j ver,N=.own j ver n→j'=j∧h[j]?=some ⟨ver,t,xs⟩) (hx0:N=.v (.slice none 0 0)→h.length≤j'∧xs=[]) (hn0:n0≤h.length)
  (f:Fr (fun k=>k<n0∨nbk N k) h h') (hj:h'[j']?=some ⟨ver',t,xs++es⟩) (hl:es.length=sz) (he:RdL (fun k=>k<n0∨nbk N k) h ecs es):GL n0 t sz h' (.own j' ver' (n+1)) (n+1) (ys++ecs):=by
 rcases a with⟨rfl,rfl,rfl⟩|⟨j,ver,xs1,rfl,hn,hj0,hj1,hl1,hr⟩
 ·obtain⟨h1,rfl⟩:=hx0 rfl;refine .inr ⟨j',ver',_,rfl,Nat.succ_pos _,by omega,hj,by simp[hl],?_⟩;exact he.up f (fun k e _=>e) fun k e hk=>e.elim .inl fun e=>by omega
 ·obtain⟨rfl,h2⟩:=hx j ver rfl;rw[hj1]at h2;cases h2;refine .inr ⟨j',ver',_,rfl,Nat.succ_pos _,hj0,hj,by rw[Bp,hl1,hl,Nat.succ_mul],?_⟩;have f':Fr (fun k=>k<n0∨k=j') h h':=f;exact (hr.up f' (fun k e _=>e) (fun k e _=>e)).append (he.up f' (fun k e _=>e) (fun k e _=>e))
set_option maxRecDepth 20000
variable {γ:List (Nat×AV)} {ts:List Tk} {L:AV}
theorem tyD:aggT Tp 127=some false∧
  aggT Tp 128=some false∧
  aggT Tp 130=some true∧
  aggT Tp 133=some false∧
  aggT Tp 135=some true∧
  aggT Tp 137=some true∧
  aggT Tp 26=some false∧
  aggT Tp 3=some false∧
  aggT Tp 41=some true∧
  aggT Tp 48=some false∧
  aggT Tp 53=some true∧
  aggT Tp 56=some false∧
  aggT Tp 59=some true∧
  aggT Tp 68=some false∧
  aggT Tp 69=some false∧
  aggT Tp 71=some true∧
  aggT Tp 78=some false∧
  aggT Tp 88=some false∧
  aggT Tp 9=some false∧
  aggT Tp 90=some true∧
  appT Tp 128 128=some (9,1,16)∧
  appT Tp 133 133=some (41,1,24)∧
  appT Tp 56 56=some (130,2,40)∧
  appT Tp 57 57=some (135,5,88)∧
  appT Tp 68 68=some (137,2,40)∧
  appT Tp 69 69=some (90,2,40)∧
  appT Tp 78 78=some (3,1,8)∧
  appT Tp 88 88=some (59,4,88)∧
  elemT Tp 37=some 5∧
  elemT Tp 48=some 53∧
  fieldT Tp 130 1=some (1,128)∧
  fieldT Tp 135 2=some (2,9)∧
  fieldT Tp 135 3=some (3,9)∧
  fieldT Tp 135 4=some (4,133)∧
  fieldT Tp 137 1=some (1,78)∧
  fieldT Tp 199 0=some (0,48)∧
  fieldT Tp 199 1=some (1,3)∧
  fieldT Tp 199 2=some (2,3)∧
  fieldT Tp 201 0=some (0,3)∧
  fieldT Tp 201 1=some (1,26)∧
  fieldT Tp 53 0=some (0,3)∧
  fieldT Tp 53 1=some (1,9)∧
  fieldT Tp 53 4=some (4,3)∧
  fieldT Tp 59 1=some (1,56)∧
  fieldT Tp 59 2=some (2,41)∧
  fieldT Tp 59 3=some (3,57)∧
  fieldT Tp 71 0=some (0,68)∧
  fieldT Tp 71 1=some (1,69)∧
  fieldT Tp 90 1=some (1,88)∧
  ifcT Tp 20=some true∧
  ifcT Tp 201=some false∧
  mkT Tp 128=some (9,1,[.v (.string ⟨#[]⟩)])∧
  mkT Tp 133=some (41,1,[.v (.slice none 0 0)])∧
  mkT Tp 56=some (130,2,[.v (.string ⟨#[]⟩),.v (.slice none 0 0)])∧
  mkT Tp 57=some (135,5,[.v (.int .i64 0),.v (.slice none 0 0),.v (.string ⟨#[]⟩),.v (.string ⟨#[]⟩),.v (.slice none 0 0)])∧
  mkT Tp 68=some (137,2,[.v (.string ⟨#[]⟩),.v (.slice none 0 0)])∧
  mkT Tp 69=some (90,2,[.v (.string ⟨#[]⟩),.v (.slice none 0 0)])∧
  mkT Tp 78=some (3,1,[.v (.int .i64 0)])∧
  mkT Tp 88=some (59,4,[.v (.string ⟨#[]⟩),.v (.slice none 0 0),.v (.slice none 0 0),.v (.slice none 0 0)])∧
  placesT Tp 130=some [(0,1),(1,1)]∧
  placesT Tp 135=some [(0,1),(1,1),(2,1),(3,1),(4,1)]∧
  placesT Tp 137=some [(0,1),(1,1)]∧
  placesT Tp 199=some [(0,1),(1,1),(2,1)]∧
  placesT Tp 201=some [(0,1),(1,1)]∧
  placesT Tp 59=some [(0,1),(1,1),(2,1),(3,1)]∧
  placesT Tp 90=some [(0,1),(1,1)]∧
  sizeT Tp 128=some 1∧
  sizeT Tp 130=some 2∧
  sizeT Tp 133=some 1∧
  sizeT Tp 135=some 5∧
  sizeT Tp 137=some 2∧
  sizeT Tp 201=some 2∧
  sizeT Tp 26=some 1∧
  sizeT Tp 3=some 1∧
  sizeT Tp 41=some 1∧
  sizeT Tp 48=some 1∧
  sizeT Tp 5=some 1∧
  sizeT Tp 53=some 6∧
  sizeT Tp 56=some 1∧
  sizeT Tp 57=some 1∧
  sizeT Tp 59=some 4∧
  sizeT Tp 68=some 1∧
  sizeT Tp 69=some 1∧
  sizeT Tp 71=some 2∧
  sizeT Tp 78=some 1∧
  sizeT Tp 88=some 1∧
  sizeT Tp 9=some 1∧
  sizeT Tp 90=some 2∧
  zcT Tp 130=some [.v (.string ⟨#[]⟩),.v (.slice none 0 0)]∧
  zcT Tp 133=some [.v (.slice none 0 0)]∧
  zcT Tp 135=some [.v (.int .i64 0),.v (.slice none 0 0),.v (.string ⟨#[]⟩),.v (.string ⟨#[]⟩),.v (.slice none 0 0)]∧
  zcT Tp 137=some [.v (.string ⟨#[]⟩),.v (.slice none 0 0)]∧
  zcT Tp 199=some [.v (.slice none 0 0),.v (.int .i64 0),.v (.int .i64 0)]∧
  zcT Tp 201=some [.v (.int .i64 0),.v (.int .i64 0)]∧
  zcT Tp 26=some [.v (.int .i64 0)]∧
  zcT Tp 3=some [.v (.int .i64 0)]∧
  zcT Tp 41=some [.v (.slice none 0 0)]∧
  zcT Tp 53=some [.v (.int .i64 0),.v (.string ⟨#[]⟩),.v (.int .i64 0),.v (.float .f64 0),.v (.int .i64 0),.v (.int .i64 0)]∧
  zcT Tp 59=some [.v (.string ⟨#[]⟩),.v (.slice none 0 0),.v (.slice none 0 0),.v (.slice none 0 0)]∧
  zcT Tp 71=some [.v (.slice none 0 0),.v (.slice none 0 0)]∧
  zcT Tp 90=some [.v (.string ⟨#[]⟩),.v (.slice none 0 0)]:=
 (by and_intros<;>kernel_rfl)
structure EnvD(γ:List (Nat×AV))(L:AV)(ts:List Tk):Prop where
 gl:Gl γ
 glw:GlW γ
 l:LAs L ts
 ok:∀ t∈ts,okTk t
 n:ts.length≤2000000
theorem EnvD.len(E:EnvD γ L ts)(s:List ABlk):lenS Tp 48 s L=some (.v (.int .i64 ts.length)):=by
 have e24:elemT Tp 48=some 53:=by kernel_rfl
 rcases E.l with⟨rfl,rfl⟩|⟨b,m,cs,rfl,_⟩
 ·simp only[lenS,e24];rfl
 ·simp only[lenS,e24];rfl
theorem EnvD.sl(E:EnvD γ L ts){p:Nat}(hp:p<ts.length):∃ b m cs,L=.sl b ts.length m cs∧tkCells ts<+:cs:=by
 rcases E.l with⟨rfl,rfl⟩|⟨b,m,cs,h,h1,_⟩
 ·exact absurd hp (by simp)
 ·exact⟨b,m,cs,h,h1⟩
def RD(h:List ABlk)(i:Nat)(L:AV)(p:Nat)(n:Nat):Prop:=h[i]?=some ⟨0,199,[L,.v (.int .i64 (p:Int)),.v (.int .i64 (n:Int))]⟩
theorem RD.lt{h:List ABlk}{i:Nat}{L:AV}{p n:Nat}(a:RD h i L p n):i<h.length:=(Bs.1 a).1
theorem RD.fr{S:Nat→Prop}{h h1:List ABlk}{i:Nat}{L:AV}{p n:Nat}(a:RD h i L p n)(f:Fr S h h1)(hS:¬S i):RD h1 i L p n:=f.at a hS
theorem RD.app{h:List ABlk}{i:Nat}{L:AV}{p n:Nat}(a:RD h i L p n)(l:List ABlk):RD (h++l) i L p n:=a.fr (Fr.app (S:=NoB) h l) fun h=>h
def stopA(pl e:Int):AV:=.ifc 201 (.agg [intC pl,intC e])
def plO(ts:List Tk)(n q:Nat):Int:=match ts[q]? with
 |some t=>t.pos
 |none=>n
theorem c202:bodyT Tp 202:=⟨_,Tryz.func202,by kernel_rfl,by kernel_rfl⟩
theorem c131:bodyT Tp 131:=⟨_,Tryz.func131,by kernel_rfl,by kernel_rfl⟩
theorem c128:bodyT Tp 128:=⟨_,Tryz.func128,by kernel_rfl,by kernel_rfl⟩
theorem c127:bodyT Tp 127:=⟨_,Tryz.func127,by kernel_rfl,by kernel_rfl⟩
theorem c199:bodyT Tp 199:=⟨_,Tryz.func199,by kernel_rfl,by kernel_rfl⟩
theorem c129:bodyT Tp 129:=⟨_,Tryz.func129,by kernel_rfl,by kernel_rfl⟩
theorem dis_ev(E:EnvD γ L ts){h:List ABlk}{i p n:Nat}(hp:p≤ts.length)(hr:RD h i L p n)(s:List UInt8):
  EvM Tp γ 202 [.ptr i 0 0,.v (.string ⟨s.toArray⟩)] h fun o h'=>o=.ret (.v (.bool (isB ts p s)))∧Fr NoB h h':=by
 have hi:h[i]?=_:=hr;have g1:∀ l,(h++l)[i]?=_:=fun l=>hr.app l
 have s1:∀ x,(h++[x])[h.length]?=some x:=fun x=>by simp
 have s2:∀ x y,(h++[x]).set h.length y=h++[y]:=fun x y=>by simp
 have ll:=E.len;refine EvM.of Tryz.func202 rfl ?_
 by_cases hlt:p<ts.length
 ·obtain⟨b,m,cs,rfl,hcs⟩:=E.sl hlt;obtain⟨t,ht⟩:∃ t,ts[p]?=some t:=⟨ts[p],by simp[hlt]⟩;have h6:=LAt.take hcs ht;have h6l:6≤(cs.drop (p * 6)).length:=by have:=LAt.len hcs hlt;rw[Bd];omega
  have d1:((p:Int)==(ts.length:Int))=false:=by simp only[beq_eq_false_iff_ne,ne_eq];omega
  have hB:isB ts p s=decide ((t.kind=5∨t.kind=1)∧t.text=s):=by unfold isB;rw[ht]
  rw[hB];simp only[Tryz.f202,evE,Nat.reduceAdd,Nat.reduceSub,Nat.reduceLT];refine dI ?_;simp only[tyD,hi,ll,d1,evE,tyX,Nat.reduceLT,Nat.reduceEqDiff,reduceCtorEq];refine dX ?_;simp only[tyD,hi,h6,h6l,s1,s2,Tk.cells,evE,tyX,Nat.reduceAdd,Nat.reduceLT,Nat.reduceLeDiff,Nat.reduceEqDiff,reduceCtorEq];refine⟨hlt,?_⟩
  (repeat' (first|(with_reducible refine aI ?_ ?_)|(first|(first|refine gF ?_ ?_|refine gT ?_ ?_|refine cI ?_ ?_|refine pI ?_ ?_)<;>intro h|(refine dI ?_;have h:=trivial))<;>simp only[h,s1,evE,tyX,Nat.reduceLT,Nat.reduceEqDiff,reduceCtorEq,tyD,g1,hi,ll,d1,h6,h6l,s2,Tk.cells,Bv,Bf,Nat.reduceAdd,Nat.reduceSub,Nat.reduceMul,Nat.reduceLeDiff,List.reduceReplicate,Int.reduceToNat,Int.reduceLE,Int.reduceLT]))
  all_goals first|exact Fr.app _ _|(refine congrArg Out.ret (congrArg AV.v (congrArg Value.bool ?_));rw[Bool.eq_iff_iff];simp_all;done)
 ·have hp2:p=ts.length:=by omega
  have d1:((p:Int)==(ts.length:Int))=true:=by rw[hp2];simp
  have hB:isB ts p s=false:=by unfold isB;rw[Bq (by omega)]
  rw[hB];simp only[Tryz.f202,evE,Nat.reduceAdd,Nat.reduceSub,Nat.reduceLT];refine dI ?_;simp only[tyD,hi,ll,d1,evE,tyX,Nat.reduceLT,Nat.reduceEqDiff,reduceCtorEq];exact Fr.refl _ _
def ResD{α:Type}(ts:List Tk)(n:Nat)(L:AV)(i:Nat)(h:List ABlk)(A:α→AV→List ABlk→Prop)(r:DR α)(o:Out)(h':List ABlk):Prop:=
 Fr (IsI i) h h'∧match r with
 |.ok x q=>∃ a,o=.ret a∧RD h' i L q n∧A x a h'
 |.bad q e=>o=.pan (stopA (plO ts n q) e)
theorem callD{α:Type}{E:AV→St→Prop}{g:FuncId}{xs:List AV}{d:Option Tmp}{K:St→Prop}{s:St}{n i:Nat}{A:α→AV→List ABlk→Prop}{r:DR α}(c:bodyT Tp g)
  (he:EvM Tp s.s.g g xs s.h (ResD ts n L i s.h A r)) (hok:∀ x q a h1,r=.ok x q→Fr (IsI i) s.h h1→RD h1 i L q n→A x a h1→K (pt ⟨s.s,h1⟩ d a))
  (hbad:∀ q e h1,r=.bad q e→Fr (IsI i) s.h h1→E (stopA (plO ts n q) e) ⟨s.s,h1⟩):CallE Tp E g xs d K s:=by
 refine CallE.intro c _ he (fun a h1 hh=>?_) (fun v h1 hh=>?_)
 ·cases r with
  |ok x q=>
   obtain⟨f,a',e,r1,hA⟩:=hh;cases e;exact hok x q _ h1 rfl f r1 hA
  |bad q e=>obtain⟨_,e⟩:=hh;cases e
 ·cases r with
  |ok x q=>obtain⟨_,a',e,_⟩:=hh;cases e
  |bad q e=>
   obtain⟨f,e⟩:=hh;cases e;exact hbad q _ h1 rfl f
theorem RD.set{h:List ABlk}{i:Nat}{L:AV}{p n:Nat}(a:RD h i L p n)(q:Nat):RD (h.set i ⟨0,199,[L,.v (.int .i64 (q:Int)),.v (.int .i64 (n:Int))]⟩) i L q n:=Be a.lt
def TakeD(ts:List Tk)(L:AV)(i p n:Nat)(s:List UInt8)(h:List ABlk)(o:Out)(h':List ABlk):Prop:=
 o=.ret (.v (.bool (isB ts p s)))∧Fr (IsI i) h h'∧RD h' i L (if isB ts p s=true then p+1 else p) n
theorem dtake_ev(E:EnvD γ L ts){h:List ABlk}{i p n:Nat}(hp:p≤ts.length)(hr:RD h i L p n)(s:List UInt8):
  EvM Tp γ 131 [.ptr i 0 0,.v (.string ⟨s.toArray⟩)] h (TakeD ts L i p n s h):=by
 refine EvM.of Tryz.func131 rfl ?_;simp only[Tryz.f131,evE,Nat.reduceAdd,Nat.reduceSub,Nat.reduceLT,Nat.reduceEqDiff,reduceCtorEq];refine CallE.intro c202 _ (dis_ev E hp hr s) (fun r h1 hh=>?_) (fun v h1 hh=>by cases hh.1);obtain⟨e,f1⟩:=hh;cases e;have r1:=hr.fr f1 (fun h=>h);have h1i:h1[i]?=_:=r1;have f1':Fr (IsI i) h h1:=f1.mono fun k e=>e.elim
 cases hB:isB ts p s with
 |true=>
  have hlt:=isB_lt hB;have hn:=E.n;have w1:IntKind.i64.wrap ((p:Int)+1)=((p+1:Nat):Int):=(i64w (by omega) (by omega)).trans (by omega);simp only[tyD,h1i,w1,evE,tyX,Bv,Nat.reduceAdd,Nat.reduceLT,Nat.reduceLeDiff,Nat.reduceEqDiff,reduceCtorEq];refine⟨by rw[hB],f1'.trans (Fr.set (S:=IsI i) _ rfl) fun k e=>.inl e,?_⟩;rw[hB];exact r1.set (p+1)
 |false=>
  simp only[evE,Bf,Nat.reduceLT,Nat.reduceEqDiff,reduceCtorEq];refine⟨by rw[hB],f1',?_⟩;rw[hB];exact r1
theorem dplace_ev(E:EnvD γ L ts){h:List ABlk}{i p n:Nat}(hr:RD h i L p n)(q:Nat):
  EvM Tp γ 199 [.ptr i 0 0,.v (.int .i64 (q:Int))] h fun o h'=>o=.ret (.v (.int .i64 (plO ts n q)))∧h'=h:=by
 have hi:h[i]?=_:=hr;have ll:=E.len;refine EvM.of Tryz.func199 rfl ?_
 by_cases hlt:q<ts.length
 ·obtain⟨b,m,cs,rfl,hcs⟩:=E.sl hlt;obtain⟨t,ht⟩:∃ t,ts[q]?=some t:=⟨ts[q],by simp[hlt]⟩;have h6l:=LAt.len hcs hlt;have h4:cs[q * 6+4]?=_:=LAt.cell (b:=b) hcs ht (k:=4) (by decide);have d1:decide (q<ts.length)=true:=decide_eq_true hlt;have hP:plO ts n q=t.pos:=by unfold plO;rw[ht]
  rw[hP];simp only[Tryz.f199,tyD,hi,ll,d1,h4,Tk.cells,evE,tyX,Nat.reduceAdd,Nat.reduceSub,Nat.reduceLT,Nat.reduceEqDiff,reduceCtorEq];exact hlt
 ·have d1:decide (q<ts.length)=false:=decide_eq_false hlt;have hP:plO ts n q=n:=by unfold plO;rw[Bq (by omega)]
  rw[hP];simp only[Tryz.f199,tyD,hi,ll,d1,evE,tyX,Nat.reduceAdd,Nat.reduceSub,Nat.reduceLT,Nat.reduceEqDiff,reduceCtorEq]
theorem dfail_ev(E:EnvD γ L ts){h:List ABlk}{i p n:Nat}(hr:RD h i L p n)(e:Int):
  EvM Tp γ 127 [.ptr i 0 0,.v (.int .i64 e)] h fun o h'=>o=.pan (stopA (plO ts n p) e)∧h'=h:=by
 have hi:h[i]?=_:=hr;refine EvM.of Tryz.func127 rfl ?_;simp only[Tryz.f127,tyD,hi,evE,tyX,Nat.reduceAdd,Nat.reduceSub,Nat.reduceLT,Nat.reduceEqDiff,reduceCtorEq];refine CallE.intro c199 _ (dplace_ev E hr p) (fun r h1 hh=>?_) (fun v h1 hh=>by cases hh.1);obtain⟨e,rfl⟩:=hh;cases e;simp only[tyD,evE,Nat.reduceAdd,Nat.reduceLT,Nat.reduceLeDiff,Nat.reduceEqDiff,reduceCtorEq]
 rfl
def UnitA(_:Unit)(a:AV)(_:List ABlk):Prop:=a=.tup []
theorem dwant_ev(E:EnvD γ L ts){h:List ABlk}{i p n:Nat}(hp:p≤ts.length)(hr:RD h i L p n)(s:List UInt8):
  EvM Tp γ 128 [.ptr i 0 0,.v (.string ⟨s.toArray⟩)] h (ResD ts n L i h UnitA (wantD ts s p)):=by
 refine EvM.of Tryz.func128 rfl ?_;simp only[Tryz.f128,evE,Nat.reduceAdd,Nat.reduceSub,Nat.reduceLT,Nat.reduceEqDiff,reduceCtorEq];refine CallE.intro c131 _ (dtake_ev E hp hr s) (fun r h1 hh=>?_) (fun v h1 hh=>by cases hh.1);obtain⟨e,f1,r1⟩:=hh;cases e;unfold wantD;cases hB:isB ts p s with
 |true=>
  rw[hB]at r1;simp only[evE,Bv,Nat.reduceLT,Nat.reduceEqDiff,reduceCtorEq];exact⟨f1,_,rfl,r1,rfl⟩
 |false=>
  rw[hB]at r1;simp only[evE,Bf,Nat.reduceLT,Nat.reduceEqDiff,reduceCtorEq];refine CallE.intro c127 _ (dfail_ev E r1 80) (fun r h2 hh=>by cases hh.1) (fun v h2 hh=>?_);obtain⟨e,rfl⟩:=hh;cases e;exact⟨f1,rfl⟩
abbrev S8:=Nat×Option (Int×Int)
variable (ts:List Tk) (n:Nat)
variable {ts n}
def okS(ts:List Tk)(S:S8):Prop:=S.1≤ts.length∧∀ b,S.2=some b→b.1≠0
theorem c35:bodyT Tp 35:=⟨_,Tryz.func35,by kernel_rfl,by kernel_rfl⟩
theorem kwB_eq(s:List UInt8):kwB s=(s==[116,97,103] || (s==[107,105,110,100] || (s==[99,104,111,114,100] || (s==[119,104,101,110] || (s==[115,101,110,100] || (s==[115,112,97,119,110] || (s==[97,115] || (s==[114,101,112,108,121] || s==[98,101,99,111,109,101])))))))):=by
 rw[Bool.eq_iff_iff];simp only[kwB,kws,kTag,kKind,kChord,kWhen,kSend,kSpawn,kAs,kReply,kBecome,decide_eq_true_eq,BI,List.not_mem_nil,or_false,Bool.or_eq_true,beq_iff_eq]
theorem keyword_ev(s:List UInt8):Ev Tp γ 35 [.v (.string ⟨s.toArray⟩)] (.v (.bool (kwB s))):=by
 refine Ev.of Tryz.func35 rfl ?_;rw[kwB_eq];simp only[Tryz.f35,evE,Nat.reduceAdd,Nat.reduceSub,Nat.reduceLT,Nat.reduceEqDiff,reduceCtorEq]
 (repeat' (first|(with_reducible refine aI ?_ ?_)|(first|(first|refine gF ?_ ?_|refine gT ?_ ?_|refine cI ?_ ?_|refine pI ?_ ?_)<;>intro h|(refine dI ?_;have h:=trivial))<;>simp only[h,evE,Nat.reduceLT,Nat.reduceEqDiff,reduceCtorEq,tyX,Bv,Bf,Nat.reduceAdd,Nat.reduceSub,Nat.reduceMul,Nat.reduceLeDiff,List.reduceReplicate,Int.reduceToNat,Int.reduceLE,Int.reduceLT]))
 all_goals (try (simp only[*,Bool.true_or,Bool.or_true,Bool.or_false,Bool.false_or];done))
 all_goals trace_state
def StrA(x:List UInt8)(a:AV)(_:List ABlk):Prop:=a=strC x
theorem dword_ev(E:EnvD γ L ts){h:List ABlk}{i p n:Nat}(hp:p≤ts.length)(hr:RD h i L p n):
  EvM Tp γ 129 [.ptr i 0 0] h (ResD ts n L i h StrA (wordD ts p)):=by
 have hi:h[i]?=_:=hr;have ll:=E.len;refine EvM.of Tryz.func129 rfl ?_
 by_cases hlt:p<ts.length
 ·obtain⟨b,m,cs,rfl,hcs⟩:=E.sl hlt;obtain⟨t,ht⟩:∃ t,ts[p]?=some t:=⟨ts[p],by simp[hlt]⟩;have h6l:=LAt.len hcs hlt;have h0:cs[p * 6]?=some (.v (.int .i64 t.kind)):=LAt.cell (b:=b) hcs ht (k:=0) (by decide);have h1:cs[p * 6+1]?=_:=LAt.cell (b:=b) hcs ht (k:=1) (by decide);have d1:((p:Int)==(ts.length:Int))=false:=by simp only[beq_eq_false_iff_ne,ne_eq];omega
  have hW:wordD ts p=if t.kind=1∧kwB t.text=false then .ok t.text (p+1)else .bad p 80:=by unfold wordD;rw[ht]
  rw[hW]
  by_cases hk:t.kind=1
  ·have dk:(t.kind != 1)=false:=by simp[hk]
   have dk2:(t.kind==1)=true:=by simp[hk]
   simp only[Tryz.f129,evE,Nat.reduceAdd,Nat.reduceSub,Nat.reduceLT];refine dI ?_;simp only[tyD,hi,ll,d1,h0,h1,dk,Tk.cells,evE,tyX,Nat.reduceLT,Nat.reduceEqDiff,reduceCtorEq];refine⟨hlt,hlt,CallK.intro c35 rfl (keyword_ev _) ?_⟩;cases hB:kwB t.text with
   |true=>
    rw[if_neg (fun h=>by cases h.2)];simp only[evE,Nat.reduceLT,Nat.reduceEqDiff,reduceCtorEq];refine CallE.intro c127 _ (dfail_ev E hr 80) (fun r h2 hh=>by cases hh.1) (fun v h2 hh=>?_);obtain⟨e,rfl⟩:=hh;cases e;exact⟨Fr.refl _ _,rfl⟩
   |false=>
    rw[if_pos ⟨hk,rfl⟩];have hn:=E.n;have w1:IntKind.i64.wrap ((p:Int)+1)=((p+1:Nat):Int):=(i64w (by omega) (by omega)).trans (by omega);have w2:IntKind.i64.wrap (((p+1:Nat):Int)-1)=(p:Int):=(i64w (by omega) (by omega)).trans (by omega);have s3:∀ b,(h.set i b)[i]?=some b:=fun b=>Be hr.lt
    simp only[tyD,hi,w1,evE,tyX,Nat.reduceAdd,Nat.reduceLT,Nat.reduceLeDiff,Nat.reduceEqDiff,reduceCtorEq];refine dI ?_;simp only[tyD,s3,w2,h1,Tk.cells,evE,tyX,Nat.reduceLT,Nat.reduceEqDiff,reduceCtorEq];exact⟨hlt,Fr.set _ rfl,_,rfl,hr.set (p+1),rfl⟩
  ·have dk:(t.kind != 1)=true:=by simp[hk]
   have dk2:(t.kind==1)=false:=by simp[hk]
   rw[if_neg (fun h=>hk h.1)];simp only[Tryz.f129,evE,Nat.reduceAdd,Nat.reduceSub,Nat.reduceLT];refine dI ?_;simp only[tyD,hi,ll,d1,h0,dk,evE,tyX,Nat.reduceLT,Nat.reduceEqDiff,reduceCtorEq];refine⟨hlt,CallE.intro c127 _ (dfail_ev E hr 80) (fun r h2 hh=>by cases hh.1) (fun v h2 hh=>?_)⟩;obtain⟨e,rfl⟩:=hh;cases e;exact⟨Fr.refl _ _,rfl⟩
 ·have d1:((p:Int)==(ts.length:Int))=true:=by simp only[beq_iff_eq];omega
  have hW:wordD ts p=.bad p 80:=by unfold wordD;rw[Bq (by omega)]
  rw[hW];simp only[Tryz.f129,evE,Nat.reduceAdd,Nat.reduceSub,Nat.reduceLT];refine dI ?_;simp only[tyD,hi,ll,d1,evE,tyX,Nat.reduceLT,Nat.reduceEqDiff,reduceCtorEq];refine CallE.intro c127 _ (dfail_ev E hr 80) (fun r h2 hh=>by cases hh.1) (fun v h2 hh=>?_);obtain⟨e,rfl⟩:=hh;cases e;exact⟨Fr.refl _ _,rfl⟩
theorem set_len(h:List ABlk)(x:ABlk)(l:List ABlk)(c:ABlk):(h++x::l).set h.length c=h++c::l:=by simp
theorem set_len1(h:List ABlk)(x y:ABlk)(l:List ABlk)(c:ABlk):(h++x::y::l).set (h.length+1) c=h++x::c::l:=by
 rw[BV _ _ (by omega),show h.length+1-h.length=1 by omega];rfl
theorem at_lenS(h:List ABlk)(i:Nat)(b x:ABlk)(l:List ABlk):(h.set i b++x::l)[h.length]?=some x:=by
 have:=at_len (h.set i b) x l
 rwa [Bl]at this
theorem at_lenS1(h:List ABlk)(i:Nat)(b x y:ABlk)(l:List ABlk):(h.set i b++x::y::l)[h.length+1]?=some y:=by
 have:=at_len1 (h.set i b) x y l
 rwa [Bl]at this
theorem set_lenS(h:List ABlk)(i:Nat)(b x:ABlk)(l:List ABlk)(c:ABlk):(h.set i b++x::l).set h.length c=h.set i b++c::l:=by
 have:=set_len (h.set i b) x l c
 rwa [Bl]at this
def ExpA(x:List Nd)(a:AV)(_:List ABlk):Prop:=a=.agg [nodesA x]
theorem c132:bodyT Tp 132:=⟨_,Tryz.func132,by kernel_rfl,by kernel_rfl⟩
theorem treeL_LIs{L:AV}{ts:List Tk}(h:LAs L ts)(f:Int):treeL [L,.v (.int .i64 f)]=true:=by rcases h with⟨rfl,rfl⟩|⟨b,m,cs,rfl,_⟩<;>rfl
theorem dexpr_ev(E:EnvD γ L ts){h:List ABlk}{i p n:Nat}(hp:p≤ts.length)(hr:RD h i L p n):
  EvM Tp γ 132 [.ptr i 0 0] h (ResD ts n L i h ExpA (exprD ts p)):=by
 have hi:h[i]?=_:=hr;have ll:=E.len;obtain⟨a1,a2,a3⟩:=readR_adv hp;have hn:=E.n;have hread:=read26_ev E.gl E.glw E.l E.ok E.n (p:Int);have g1:∀ l,(h++l)[i]?=_:=fun l=>hr.app l
 have s1:∀ (x:ABlk) l,(h++x::l)[h.length]?=some x:=fun x l=>by simp
 have s2:∀ (x y:ABlk) l,(h++x::y::l)[h.length+1]?=some y:=fun x y l=>by simp
 have one:∀ ns,oneA (nodesA ns)=true:=fun ns=>by cases ns<;>rfl
 refine EvM.of Tryz.func132 rfl ?_;simp only[Tryz.f132,tyD,evE,Nat.reduceAdd,Nat.reduceSub,Nat.reduceLT];refine dX ?_;simp only[tyD,g1,evE,tyX,Nat.reduceLT,Nat.reduceEqDiff,reduceCtorEq];refine CallK.intro c26 (treeL_LIs E.l _) hread ?_;unfold readA exprD;generalize readR ts (p:Int)=R at a1 a2 a3;obtain⟨ns,q,e⟩:=R;simp only at a1 a2 a3;obtain⟨q,rfl⟩:∃ q':Nat,q=q':=⟨q.toNat,by omega⟩;have s6:∀ l b,(h++l).set i b=h.set i b++l:=fun l b=>Bg _ _ hr.lt
 have s7:∀ b l,(h.set i b++l)[i]?=some b:=fun b l=>by rw[Ba (by rw[Bl];exact hr.lt)];exact Be hr.lt
 by_cases he:e=0
 ·have de:(e != 0)=false:=by simp[he]
  rw[if_pos he,Int.toNat_natCast];simp only[tyD,g1,one,de,at_len1,set_len1,at_lenS,at_lenS1,set_lenS,s6,Bo,Bc,Bi,evE,tyX,Nat.reduceAdd,Nat.reduceLT,Nat.reduceLeDiff,Nat.reduceEqDiff,reduceCtorEq];exact⟨Fr.trans (Fr.set _ rfl) (Fr.app (S:=NoB) _ _) (fun k e=>e.elim),_,rfl,s7 _ _,rfl⟩
 ·have de:(e != 0)=true:=by simp[he]
  rw[if_neg he,Int.toNat_natCast];simp only[tyD,one,de,at_len1,set_len1,Bo,Bc,Bi,evE,Nat.reduceLT,Nat.reduceLeDiff,Nat.reduceEqDiff,reduceCtorEq];refine CallE.intro c199 _ (dplace_ev E (hr.app _) q) (fun r h2 hh=>?_) (fun v h2 hh=>by cases hh.1);obtain⟨e,rfl⟩:=hh;cases e;simp only[tyD,evE,Nat.reduceAdd,Nat.reduceLT,Nat.reduceLeDiff,Nat.reduceEqDiff,reduceCtorEq];exact⟨Fr.app _ _,rfl⟩
def ResS(S:Nat→Prop){α:Type}(ts:List Tk)(n:Nat)(L:AV)(i:Nat)(h:List ABlk)(A:α→AV→List ABlk→Prop)(r:DR α)(o:Out)(h':List ABlk):Prop:=
 Fr S h h'∧match r with
 |.ok x q=>∃ a,o=.ret a∧RD h' i L q n∧A x a h'
 |.bad q e=>o=.pan (stopA (plO ts n q) e)
theorem ResS.elim{S:Nat→Prop}{α:Type}{n i:Nat}{h:List ABlk}{A:α→AV→List ABlk→Prop}{r:DR α}{K:AV→List ABlk→Prop}{E:AV→List ABlk→Prop}
  (hok:∀ x q a h1,r=.ok x q→Fr S h h1→RD h1 i L q n→A x a h1→K a h1)
  (hbad:∀ q e h1,r=.bad q e→Fr S h h1→E (stopA (plO ts n q) e) h1):(∀ a h1,ResS S ts n L i h A r (.ret a) h1→K a h1)∧(∀ v h1,ResS S ts n L i h A r (.pan v) h1→E v h1):=by
 constructor
 ·intro a h1 hh;cases r with
  |ok x q=>
   obtain⟨f,a',e,r1,hA⟩:=hh;cases e;exact hok x q _ h1 rfl f r1 hA
  |bad q e=>obtain⟨_,e⟩:=hh;cases e
 ·intro v h1 hh;cases r with
  |ok x q=>obtain⟨_,a',e,_⟩:=hh;cases e
  |bad q e=>
   obtain⟨f,e⟩:=hh;cases e;exact hbad q _ h1 rfl f
theorem callS{α:Type}{E:AV→St→Prop}{g:FuncId}{xs:List AV}{d:Option Tmp}{K:St→Prop}{s:St}{n i:Nat}{S:Nat→Prop}{A:α→AV→List ABlk→Prop}{r:DR α}(c:bodyT Tp g)
  (he:EvM Tp s.s.g g xs s.h (ResS S ts n L i s.h A r)) (hok:∀ x q a h1,r=.ok x q→Fr S s.h h1→RD h1 i L q n→A x a h1→K (pt ⟨s.s,h1⟩ d a))
  (hbad:∀ q e h1,r=.bad q e→Fr S s.h h1→E (stopA (plO ts n q) e) ⟨s.s,h1⟩):CallM Tp E g xs d K s:=by
 obtain⟨k1,k2⟩:=ResS.elim (ts:=ts) (L:=L) (K:=fun a h1=>K (pt ⟨s.s,h1⟩ d a)) (E:=fun v h1=>E v ⟨s.s,h1⟩) hok hbad;exact CallM.intro c _ he k1 k2
theorem callSE{α:Type}{E:AV→St→Prop}{g:FuncId}{xs:List AV}{d:Option Tmp}{K:St→Prop}{s:St}{n i:Nat}{S:Nat→Prop}{A:α→AV→List ABlk→Prop}{r:DR α}(c:bodyT Tp g)
  (he:EvM Tp s.s.g g xs s.h (ResS S ts n L i s.h A r)) (hok:∀ x q a h1,r=.ok x q→Fr S s.h h1→RD h1 i L q n→A x a h1→K (pt ⟨s.s,h1⟩ d a))
  (hbad:∀ q e h1,r=.bad q e→Fr S s.h h1→E (stopA (plO ts n q) e) ⟨s.s,h1⟩):CallE Tp E g xs d K s:=.inr (callS c he hok hbad)
def IN(i b n0:Nat)(k:Nat):Prop:=k=i∨k=b∨n0≤k
theorem IN.i{i b n0:Nat}{h h':List ABlk}(f:Fr (IsI i) h h'):Fr (IN i b n0) h h':=f.mono fun k e=>.inl e
theorem c200:bodyT Tp 200:=⟨_,Tryz.func200,by kernel_rfl,by kernel_rfl⟩
def lsS(γ:List (Nat×AV))(i:Nat)(C:AV)(y:Nat×List ABlk):St:=⟨⟨17,[(0,.ptr i 0 0),(1,C)],γ⟩,y.2⟩
def LsA{α:Type}(Φ:List ABlk→List α→Prop)(x:List α)(a:AV)(h:List ABlk):Prop:=a=.tup []∧Φ h x
theorem dlisted_ev{α:Type}(E:EnvD γ L ts){I:Nat→DR α}(hI:∀ p,p≤ts.length→(I p).adv ts p 1){i b n n0:Nat}{Φ:List ABlk→List α→Prop}{g:FuncId}{fs cs:List AV}(c:bodyT Tp g)
  (hΦ:∀ h h1 xs,Φ h xs→Fr (IsI i) h h1→Φ h1 xs)
  (hg:∀ h p xs,p≤ts.length→xs.length≤p→RD h i L p n→Φ h xs→EvM Tp γ g (fs++cs) h (ResS (IN i b n0) ts n L i h (fun x a h'=>a=.tup []∧Φ h' (xs++[x])) (I p)))
  {h:List ABlk} {p:Nat} (hp:p≤ts.length) (hr:RD h i L p n) (h0:Φ h []) :
  EvM Tp γ 200 [.ptr i 0 0,.clo g fs cs] h (ResS (IN i b n0) ts n L i h (LsA Φ) (listD ts I p)):=by
 refine EvM.of Tryz.func200 rfl ?_;simp only[Tryz.f200,evE,Nat.reduceAdd,Nat.reduceSub,Nat.reduceLT,Nat.reduceEqDiff,reduceCtorEq];refine callD c128 (dwant_ev E hp hr [40]) (fun x p1 a h1 e f1 r1 hA=>?_) (fun q e' h1 e f1=>?_)
 rotate_left
 ·have ed:listD ts I p=.bad q e':=by unfold listD;rw[e];rfl
  rw[ed];exact⟨IN.i f1,rfl⟩
 have adv1:=want_adv hp [40];rw[e]at adv1;obtain⟨a1,a2⟩:=adv1;have ed:listD ts I p=if isB ts p1 [41]=true then .ok [] (p1+1)else (I p1).bind fun x q=>moreD ts I (ts.length+1) [x] q:=by unfold listD;rw[e];rfl
 rw[ed];subst hA;simp only[evE,Nat.reduceLT,Nat.reduceEqDiff,reduceCtorEq];refine CallE.intro c131 _ (dtake_ev E a2 r1 [41]) (fun r h2 hh=>?_) (fun v h2 hh=>by cases hh.1);obtain⟨e2,f2,r2⟩:=hh;cases e2;have f02:Fr (IsI i) h h2:=f1.trans f2 fun k e=>.inl e
 cases hB:isB ts p1 [41]with
 |true=>
  rw[hB]at r2;rw[if_pos rfl];simp only[evE,Nat.reduceLT,Nat.reduceEqDiff,reduceCtorEq];exact⟨IN.i f02,_,rfl,r2,rfl,hΦ _ _ _ h0 f02⟩
 |false=>
  rw[hB]at r2;rw[if_neg (by decide)];simp only[evE,Nat.reduceLT,Nat.reduceEqDiff,reduceCtorEq];have r2':RD h2 i L p1 n:=by rw[if_neg (by decide)]at r2;exact r2
  refine callS c (hg h2 p1 [] a2 (BN _) r2' (hΦ _ _ _ h0 f02)) (fun x q a h3 e3 f3 r3 hA=>?_) (fun q e' h3 e3 f3=>?_)
  rotate_left
  ·rw[e3];exact⟨(IN.i (b:=b) (n0:=n0) f02).trans f3 fun k e=>.inl e,rfl⟩
  obtain⟨rfl,hΦ3⟩:=hA;have adv3:=hI p1 a2;rw[e3]at adv3⊢;obtain⟨b1,b2⟩:=adv3;have eD:(DR.ok x q).bind (fun x q=>moreD ts I (ts.length+1) [x] q)=moreD ts I (ts.length+1) [x] q:=rfl;rw[eD];generalize hR:moreD ts I (ts.length+1) [x] q=R;simp only[evE,Nat.reduceLT]
  refine LoopE.intro (lsS γ i (.clo g fs cs)) (fun y=>∃ xs f,y.1≤ts.length∧xs.length≤y.1∧RD y.2 i L y.1 n∧Φ y.2 xs∧Fr (IN i b n0) h y.2∧moreD ts I f xs y.1=R∧ts.length<f+y.1) (fun y=>ts.length+1-y.1) (q,h3) ⟨rfl,rfl,⟨rfl,rfl,trivial⟩,rfl⟩
   ⟨[x],ts.length+1,b2,by show 1≤q;omega,r3,hΦ3,(IN.i (b:=b) (n0:=n0) f02).trans f3 fun k e=>.inl e,hR,by show ts.length<ts.length+1+q;omega⟩ (fun y hy=>?_)
  clear hR r3 hΦ3 f3 e3 b1 b2 r2 r2' f02 f2 f1 r1 hB;obtain⟨p,h4⟩:=y;obtain⟨xs,f,hp4,hx4,r4,hΦ4,f4,hR,hf⟩:=hy;simp only at hp4 hx4 r4 hΦ4 f4 hR hf;obtain⟨f,rfl⟩:∃ g,f=g+1:=⟨f-1,by omega⟩;rw[moreD]at hR;simp only[lsS,evE,Nat.reduceLT,Nat.reduceEqDiff,reduceCtorEq];refine CallE.intro c131 _ (dtake_ev E hp4 r4 [41]) (fun r h5 hh=>?_) (fun v h5 hh=>by cases hh.1);obtain⟨e5,f5,r5⟩:=hh;cases e5;have f45:=f4.trans (IN.i (b:=b) (n0:=n0) f5) fun k e=>.inl e
  cases hB:isB ts p [41]with
  |true=>
   rw[hB]at r5 hR;rw[if_pos rfl]at hR;rw[←hR];simp only[evE,Bv,Nat.reduceLT,Nat.reduceEqDiff,reduceCtorEq];exact⟨f45,_,rfl,r5,rfl,hΦ _ _ _ hΦ4 f5⟩
  |false=>
   have r5':RD h5 i L p n:=by rw[hB,if_neg (by decide)]at r5;exact r5
   rw[hB,if_neg (by decide)]at hR;simp only[evE,Bf,Nat.reduceLT,Nat.reduceEqDiff,reduceCtorEq];refine callD c128 (dwant_ev E hp4 r5' [44]) (fun x p6 a h6 e6 f6 r6 hA=>?_) (fun q e' h6 e6 f6=>?_)
   rotate_left
   ·unfold wantD at e6
    split at e6
    ·cases e6
    ·rename_i hB2;cases e6;rw[if_neg hB2]at hR;rw[←hR];exact⟨f45.trans (IN.i f6) fun k e=>.inl e,rfl⟩
   unfold wantD at e6
   split at e6
   rotate_left
   ·cases e6
   rename_i hB2;cases e6;subst hA;rw[if_pos hB2]at hR;have hlt:=isB_lt hB2;have f06:=f45.trans (IN.i (b:=b) (n0:=n0) f6) fun k e=>.inl e
   simp only[evE,Nat.reduceLT,Nat.reduceEqDiff,reduceCtorEq];refine callS c (hg h6 (p+1) xs hlt (by omega) r6 (hΦ _ _ _ (hΦ _ _ _ hΦ4 f5) f6)) (fun x q a h7 e7 f7 r7 hA=>?_) (fun q e' h7 e7 f7=>?_)
   rotate_left
   ·rw[e7]at hR;rw[←hR];exact⟨f06.trans f7 fun k e=>.inl e,rfl⟩
   obtain⟨rfl,hΦ7⟩:=hA;have adv7:=hI (p+1) hlt;rw[e7]at hR adv7;obtain⟨b1,b2⟩:=adv7;simp only[evE,Nat.reduceLT];exact loopCE.intro (q,h7) ⟨xs++[x],f,b2,by rw[Bp];show xs.length+1≤q;omega,r7,hΦ7,f06.trans f7 fun k e=>.inl e,hR,by show ts.length<f+q;omega⟩ ⟨rfl,rfl,⟨rfl,rfl,trivial⟩,rfl⟩ (by show ts.length+1-q<ts.length+1-p;omega)
theorem ResD.ret{α:Type}{n i:Nat}{h h1:List ABlk}{A:α→AV→List ABlk→Prop}{R:DR α}{a:AV}(hh:ResD ts n L i h A R (.ret a) h1):∃ x q,R=.ok x q∧Fr (IsI i) h h1∧RD h1 i L q n∧A x a h1:=by
 cases R with
 |ok x q=>
  obtain⟨f,a',e,r1,hA⟩:=hh;cases e;exact⟨x,q,rfl,f,r1,hA⟩
 |bad q e=>obtain⟨_,e⟩:=hh;cases e
theorem ResD.pan{α:Type}{n i:Nat}{h h1:List ABlk}{A:α→AV→List ABlk→Prop}{R:DR α}{v:AV}(hh:ResD ts n L i h A R (.pan v) h1):∃ q e,R=.bad q e∧Fr (IsI i) h h1∧v=stopA (plO ts n q) e:=by
 cases R with
 |ok x q=>obtain⟨_,a',e,_⟩:=hh;cases e
 |bad q e=>
  obtain⟨f,e'⟩:=hh;cases e';exact⟨q,e,rfl,f,rfl⟩
def BoxN(N:AV)(i n0 b rb:Nat)(tb:TypeId)(pre:List AV)(tE:TypeId)(sz:Nat)(k:Nat)(ys:List AV)(h:List ABlk):Prop:=
 i<n0∧b<n0∧rb<n0∧rb≠b∧i≠b∧i≠rb∧n0≤h.length∧h[rb]?=some ⟨0,127,[.ptr i 0 0]⟩∧h[b]?=some ⟨0,tb,pre++[N]⟩∧GL n0 tE sz h N k ys
theorem BoxN.fr{N:AV}{i n0 b rb:Nat}{tb:TypeId}{pre:List AV}{tE:TypeId}{sz k:Nat}{ys:List AV}{h h1:List ABlk}(a:BoxN N i n0 b rb tb pre tE sz k ys h)(f:Fr (IsI i) h h1):BoxN N i n0 b rb tb pre tE sz k ys h1:=by
 obtain⟨a1,a2,a3,a4,a5,a6,a7,a8,a9,a10⟩:=a;exact⟨a1,a2,a3,a4,a5,a6,BM a7 f.1,f.at a8 (fun e=>a6 e.symm),f.at a9 (fun e=>a5 e.symm),a10.fr0 f (fun k e=>by have e:k=i:=e;omega)⟩
theorem BoxN.push{N:AV}{i n0 b rb:Nat}{tb:TypeId}{pre:List AV}{tE:TypeId}{sz k:Nat}{ys es ecs cs:List AV}{h h':List ABlk}{j' ver':Nat}(a:BoxN N i n0 b rb tb pre tE sz k ys h)
  (hx:∀ j ver,N=.own j ver k→j'=j∧h[j]?=some ⟨ver,tE,cs⟩) (hx0:N=.v (.slice none 0 0)→h.length≤j'∧cs=[])
  (f:Fr (fun k=>k=b∨nbk N k) h h') (hj:h'[j']?=some ⟨ver',tE,cs++es⟩) (hb:h'[b]?=some ⟨0,tb,pre++[.own j' ver' (k+1)]⟩) (hl:es.length=sz) (he:RdL (fun k=>k<n0∨nbk N k) h ecs es) :
  BoxN (.own j' ver' (k+1)) i n0 b rb tb pre tE sz (k+1) (ys++ecs) h'∧Fr (IN i b n0) h h':=by
 obtain⟨a1,a2,a3,a4,a5,a6,a7,a8,a9,a10⟩:=a;have hN:∀ k,nbk N k→n0≤k:=fun k hk=>(a10.lt hk).1
 exact⟨⟨a1,a2,a3,a4,a5,a6,BM a7 f.1,f.at a8 (fun e=>e.elim a4 fun e=>by have:=hN _ e;omega),hb,a10.push hx hx0 a7 (f.mono fun k e=>e.elim (fun e=>.inl (by omega)) .inr) hj hl he⟩,
  f.mono fun k e=>e.elim (fun e=>.inr (.inl e)) fun e=>.inr (.inr (hN _ e))⟩
def BoxL(i n0 b rb:Nat)(tb:TypeId)(pre:List AV)(tE:TypeId)(sz:Nat){α:Type}(enc:α→List AV)(h:List ABlk)(xs:List α):Prop:=∃ N,BoxN N i n0 b rb tb pre tE sz xs.length (xs.flatMap enc) h
theorem BoxL.fr{i n0 b rb:Nat}{tb:TypeId}{pre:List AV}{tE:TypeId}{sz:Nat}{α:Type}{enc:α→List AV}{h h1:List ABlk}{xs:List α}(a:BoxL i n0 b rb tb pre tE sz enc h xs)(f:Fr (IsI i) h h1):BoxL i n0 b rb tb pre tE sz enc h1 xs:=by
 obtain⟨N,a⟩:=a;exact⟨N,a.fr f⟩
theorem rR_bs{P:Program}{E:AV→St→Prop}{K:St→Prop}{s:St}{d:Option Tmp}{t:TypeId}{pos:String}{af:Array Edge}{g:Option (Nat×Bool)}{ρ:Rho}(u n:Nat)(ps:Array (Nat×Operand)):kopR P E ρ ⟨d,.buildSlice u n ps,t,pos,af,g⟩ K s=kop P ⟨d,.buildSlice u n ps,t,pos,af,g⟩ K s:=rfl
theorem c249:bodyT Tp 249:=⟨_,Tryz.func249,by kernel_rfl,by kernel_rfl⟩
def encX(x:List Nd):List AV:=[nodesA x]
theorem dargs1_ev(E:EnvD γ L ts){i n n0 b rb p:Nat}{h:List ABlk}{xs:List (List Nd)}(hp:p≤ts.length)(hr:RD h i L p n)(hB:BoxL i n0 b rb 133 [] 41 1 encX h xs)(hxs:(xs.length+1) * 24≤140737488355328):
  EvM Tp γ 249 [.ptr b 0 0,.ptr rb 0 0] h (ResS (IN i b n0) ts n L i h (fun x a h'=>a=.tup []∧BoxL i n0 b rb 133 [] 41 1 encX h' (xs++[x])) (exprD ts p)):=by
 obtain⟨N,hB'⟩:=hB;have hB2:=hB';obtain⟨a1,a2,a3,a4,a5,a6,a7,a8,a9,a10⟩:=hB2;refine EvM.ofG Tryz.func249 rfl ?_;simp only[Tryz.f249,evG,Nat.reduceAdd,Nat.reduceSub];refine DrawE.orders [[0,1,2,3,4,5],[1,0,2,3,4,5],[1,2,0,3,4,5],[1,2,3,0,4,5]] (fun _ _ _ h o h'=>ResD ts n L i h ExpA (exprD ts p) o h') (panE_ext _) (by kernel_rfl) (by kernel_rfl) (by kernel_rfl) (fun q hq=>?_);simp only[BI,List.not_mem_nil,or_false]at hq
 rcases hq with rfl|rfl|rfl|rfl
 all_goals simp only[evR,rR_bs,seqT,BU,Bu,Bz,tyD,a8,a9,Bi,evG,Nat.reduceLT,Nat.reduceLeDiff,Nat.reduceEqDiff,reduceCtorEq,List.reduceReplicate]
 all_goals refine⟨c132,dexpr_ev E hp hr,fun r h1 hh=>?_,fun v h1 hh=>by obtain⟨q,e,eR,f1,rfl⟩:=ResD.pan hh;rw[eR];exact⟨IN.i f1,rfl⟩⟩
 all_goals obtain⟨x,q,eR,f1,r1,rfl⟩:=ResD.ret hh
 all_goals rw[eR]
 all_goals obtain⟨b1,b2,b3,b4,b5,b6,b7,b8,b9,b10⟩:=hB'.fr f1
 all_goals have hbl:=(Bs.1 b9).1
 all_goals have hrl:=r1.lt
 all_goals have one:oneA (nodesA x)=true:=by cases x<;>rfl
 all_goals have g7:∀ l,(h1++l)[b]?=some ⟨0,133,[N]⟩:=fun l=>(Ba hbl).trans b9
 all_goals have s6:∀ l c,(h1++l).set b c=h1.set b c++l:=fun l c=>Bg _ _ hbl
 all_goals have he:RdL (fun k=>k<n0∨nbk N k) h1 [nodesA x] [nodesA x]:=RdL.cons (Rd.nodes x) RdL.nil
 all_goals have hxe:(xs++[x]).length=xs.length+1:=by simp
 all_goals have hxf:(xs++[x]).flatMap encX=xs.flatMap encX++[nodesA x]:=by simp[encX]
 all_goals have hB3:=hB'.fr f1
 all_goals rcases b10 with⟨rfl,e0,e1⟩|⟨j,ver,cs,rfl,hn,hj0,hj,hl,hrd⟩
 all_goals first
  |(have e0':=e0
    simp only[tyD,b9,g7,one,at_len,s6,Bi,Bo,Bc,evG,Nat.reduceLT,Nat.reduceLeDiff,Nat.reduceEqDiff,reduceCtorEq];obtain⟨k1,k2⟩:=hB3.push (h':=h1.set b ⟨0,133,[.own (h1.length+1) 0 1]⟩++[⟨0,41,[nodesA x]⟩,⟨0,41,[nodesA x]⟩]) (j':=h1.length+1) (ver':=0) (cs:=[]) (es:=[nodesA x]) (ecs:=[nodesA x]) (fun j ver e=>by cases e) (fun _=>⟨by omega,rfl⟩) ((Fr.set _ (.inl rfl)).trans (Fr.app (S:=NoB) _ _) fun k e=>e.elim) (at_lenS1 _ _ _ _ _ _) (by rw[e0];exact (Ba (by rw[Bl];exact hbl)).trans (Be hbl)) rfl he;rw[e0]at k1;refine⟨(IN.i f1).trans k2 fun k e=>.inl e,_,rfl,?_,rfl,.own (h1.length+1) 0 1,?_⟩
    ·exact (Ba (by rw[Bl];exact hrl)).trans ((Bn a5.symm).trans r1)
    ·rw[hxe,hxf,e0];exact k1)
  |(have hjl:=(Bs.1 hj).1
    have hjb:j≠b:=by omega
    have hji:j≠i:=by omega
    have q1:∀ l,(h1++l)[j]?=some ⟨ver,41,cs⟩:=fun l=>(Ba hjl).trans hj
    have s8:∀ l c,(h1++l).set j c=h1.set j c++l:=fun l c=>Bg _ _ hjl
    have g9:∀ l c,(h1.set j c++l)[b]?=some ⟨0,133,[.own j ver xs.length]⟩:=fun l c=>(Ba (by rw[Bl];exact hbl)).trans ((Bn hjb).trans b9)
    have s9:∀ l c d,(h1.set j c++l).set b d=(h1.set j c).set b d++l:=fun l c d=>Bg _ _ (by rw[Bl];exact hbl)
    have hl':cs.length=xs.length:=by omega
    have q4:List.take xs.length cs=cs:=Bt (by omega);have q6:xs.length≤cs.length:=by omega
    simp only[tyD,b9,g7,one,at_len,Bi,q1,s8,g9,s9,q4,q6,evG,Nat.reduceLT,Nat.reduceLeDiff,Nat.reduceEqDiff,reduceCtorEq];obtain⟨k1,k2⟩:=hB3.push (h':=(h1.set j ⟨ver+1,41,cs++[nodesA x]⟩).set b ⟨0,133,[.own j (ver+1) (xs.length+1)]⟩++[⟨0,41,[nodesA x]⟩]) (j':=j) (ver':=ver+1) (cs:=cs) (es:=[nodesA x]) (ecs:=[nodesA x]) (fun j2 ver2 e=>by cases e;exact⟨rfl,hj⟩) (fun e=>by cases e) (((Fr.set (S:=fun k=>k=b∨nbk (.own j ver xs.length) k) _ (.inr rfl)).trans (Fr.set (S:=fun k=>k=b∨nbk (.own j ver xs.length) k) _ (.inl rfl)) fun k e=>.inl e).trans (Fr.app (S:=NoB) _ _) fun k e=>e.elim) ((Ba (by rw[Bl,Bl];exact hjl)).trans ((Bn hjb.symm).trans (Be hjl))) ((Ba (by rw[Bl,Bl];exact hbl)).trans (Be (by rw[Bl];exact hbl))) rfl he;refine⟨hxs,(IN.i f1).trans k2 fun k e=>.inl e,_,rfl,?_,rfl,.own j (ver+1) (xs.length+1),?_⟩
    ·exact (Ba (by rw[Bl,Bl];exact hrl)).trans ((Bn a5.symm).trans ((Bn hji).trans r1))
    ·rw[hxe,hxf];exact k1)
def RdA{α:Type}(f:α→AV)(m:Nat)(x:α)(a:AV)(h':List ABlk):Prop:=Rd (Old m) h' (f x) a
theorem c203:bodyT Tp 203:=⟨_,Tryz.func203,by kernel_rfl,by kernel_rfl⟩
theorem expsA_eq(xs:List (List Nd)):slA xs.length (xs.flatMap encX)=expsA xs:=by
 have:xs.flatMap encX=xs.map nodesA:=by
  induction xs with
  |nil=>rfl
  |cons x xs ih=>rw[BE,ih];rfl
 rw[this];rfl
theorem Fr.drop{i n0 b:Nat}{h h':List ABlk}{l:List ABlk}(f:Fr (IN i b n0) (h++l) h')(hb:h.length≤b)(hn:h.length≤n0):Fr (IsI i) h h':=
 (Fr.app (S:=IsI i) h l).trans f fun k e=>by
  rcases e with e|e|e
  ·exact .inl e
  ·exact .inr (by omega)
  ·exact .inr (by omega)
theorem dargs_ev(E:EnvD γ L ts){h:List ABlk}{i p n:Nat}(hp:p≤ts.length)(hr:RD h i L p n):
  EvM Tp γ 203 [.ptr i 0 0] h (ResD ts n L i h (RdA expsA h.length) (argsD ts p)):=by
 have hil:=hr.lt;have hn:=E.n;refine EvM.of Tryz.func203 rfl ?_;simp only[Tryz.f203,tyD,at_len,Bo,Bc,Bi,evE,Nat.reduceAdd,Nat.reduceSub,Nat.reduceLT,Nat.reduceEqDiff,reduceCtorEq]
 have hlist:=dlisted_ev (b:=h.length+1) (n0:=h.length+2) E (I:=exprD ts) (fun p hp=>expr_adv hp) (Φ:=BoxL i (h.length+2) (h.length+1) h.length 133 [] 41 1 encX) (fs:=[]) (cs:=[.ptr (h.length+1) 0 0,.ptr h.length 0 0]) c249
  (fun h h1 xs a f=>a.fr f) (fun h p xs hp hx hr hB=>dargs1_ev E hp hr hB (by omega)) hp (hr.app [⟨0,127,[.ptr i 0 0]⟩,⟨0,133,[.v (.slice none 0 0)]⟩]) ⟨.v (.slice none 0 0),by omega,by omega,by omega,by omega,by omega,by omega,by simp,at_len _ _ _,at_len1 _ _ _ _,GL.nil⟩
 unfold argsD;refine callSE c200 hlist (fun xs q a h1 e f1 r1 hA=>?_) (fun q e' h1 e f1=>?_)
 rotate_left
 ·rw[e];exact⟨f1.drop (by omega) (by omega),rfl⟩
 rw[e];obtain⟨rfl,N,b1,b2,b3,b4,b5,b6,b7,b8,b9,b10⟩:=hA;have hbl:=(Bs.1 b9).1;have s5:∀ c,(h1.set (h.length+1) c)[h.length+1]?=some c:=fun c=>Be hbl
 have rd:∀ c,Rd (Old h.length) (h1.set (h.length+1) c) (expsA xs) N:=fun c=>by
  have:=b10.rd.up (S':=Old h.length) (Fr.set (S:=IsI (h.length+1)) c rfl) (fun k e _=>by have e:k=h.length+1:=e;subst e;exact b2) (fun k e _=>by have e:k<h.length:=e;show k<h.length+2;omega)
  rwa [expsA_eq]at this
 have f2:∀ c,Fr (IN i (h.length+1) (h.length+2)) h1 (h1.set (h.length+1) c):=fun c=>Fr.set _ (.inr (.inl rfl))
 have hN:flat N=some [N]:=by rcases b10 with⟨rfl,_⟩|⟨j,ver,cs,rfl,_⟩<;>rfl
 have oN:oneA N=true:=by rcases b10 with⟨rfl,_⟩|⟨j,ver,cs,rfl,_⟩<;>rfl
 simp only[tyD,b9,s5,hN,setMany,Bi,evE,Nat.reduceLT,Nat.reduceLeDiff,Nat.reduceEqDiff,reduceCtorEq];exact⟨(f1.trans (f2 _) fun k e=>.inl e).drop (by omega) (by omega),N,rfl,(Bn b5.symm).trans r1,rd _⟩
end Go.Proofs.YtlobiioioicmhaaGreatDoor
