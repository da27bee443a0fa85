/- A part of the proof. -/
import Derived.Test.YtlobiioioicmhaaGreatDoorDQ6
import Derived.Test.YtlobiioioicmhaaGreatDoorDU9
set_option linter.all false
set_option maxHeartbeats 8000000
namespace Go.Proofs.YtlobiioioicmhaaGreatDoor
open _root_.Bool renaming not_true→Bv,not_false→Bf
open _root_.List renaming getElem?_eq_some_iff→Bs,getElem?_set_self→Be,length_set→Bl,length_append→Bp,append_assoc→Bo,cons_append→Bc,getElem?_eq_none→Bq,length_drop→Bd,length_take→Bh,prefix_rfl→BB,length_cons→BC,mem_cons→BI,append_nil→BS,set_append_right→BV
open _root_.Nat renaming le_refl→BL,le_trans→BM,zero_le→BN
open Go.Proofs.Tryz renaming prog→Tp
open Go Go.Ev
set_option maxRecDepth 20000
variable {γ:List (Nat×AV)}
def stN(ts:List Tk):Nat:=(ts.takeWhile standB).length
theorem stN_le(ts:List Tk):stN ts≤ts.length:=(List.takeWhile_prefix standB).length_le
theorem stN_yes:∀ (ts:List Tk) (k:Nat) (t:Tk),k<stN ts→ts[k]?=some t→standB t=true
 |[],k,t,h,ht=>by cases ht
 |x::ts,k,t,h,ht=>by
  unfold stN at h;rw[List.takeWhile_cons]at h
  split at h
  ·rename_i hx;cases k with
   |zero=>cases ht;exact hx
   |succ k=>exact stN_yes ts k t (by unfold stN;rw[BC]at h;omega) (by simpa using ht)
  ·simp at h
theorem stN_no:∀ (ts:List Tk) (t:Tk),ts[stN ts]?=some t→standB t=false
 |[],t,ht=>by cases ht
 |x::ts,t,ht=>by
  unfold stN at ht;rw[List.takeWhile_cons]at ht
  split at ht
  ·exact stN_no ts t (by unfold stN;simpa using ht)
  ·rename_i hx;cases ht;simpa using hx
theorem stN_lt{ts:List Tk}{k:Nat}{t:Tk}(hk:k≤stN ts)(ht:ts[k]?=some t)(hs:standB t=true):k+1≤stN ts:=by
 by_cases h:k=stN ts
 ·rw[h]at ht;rw[stN_no ts t ht]at hs;cases hs
 ·omega
theorem stN_eq{ts:List Tk}{k:Nat}{t:Tk}(hk:k≤stN ts)(ht:ts[k]?=some t)(hs:standB t=false):k=stN ts:=by
 by_cases h:k=stN ts
 ·exact h
 ·rw[stN_yes ts k t (by omega) ht]at hs;cases hs
def idxR(ts:List Tk):Int:=if stN ts<ts.length then (stN ts:Int)else -1
theorem c65:bodyT Tp 65:=⟨_,Tryz.func65,by kernel_rfl,by kernel_rfl⟩
def okTk(t:Tk):Prop:=t.text.length≤140737488351232∧t.real<18446744073709551616
def ixS(γ:List (Nat×AV))(L:AV)(n k:Nat):St:=⟨⟨19,[(0,L),(1,.v (.func (.func 66) #[] #[])),(7,.v (.int .i64 (n:Int))),(8,.v (.int .i64 (k:Int)))],γ⟩,[]⟩
theorem index_ev(hγ:Gl γ)(hγ2:GlW γ){L:AV}{ts:List Tk}(hL:LAt L ts)(ht:∀ t∈ts,okTk t)(hn:ts.length<4611686018427387904):Ev Tp γ 65 [L,.v (.func (.func 66) #[] #[])] (.v (.int .i64 (idxR ts))):=by
 refine Ev.ofE Tryz.func65 rfl ?_
 rcases hL with⟨rfl,rfl⟩|⟨b,m,cs,rfl,hcs⟩
 ·simp only[Tryz.f65,evE,tyX,Nat.reduceAdd,Nat.reduceSub,Nat.reduceLT,Nat.reduceEqDiff,reduceCtorEq];refine LoopE.intro (ixS γ (.v (.slice none 0 0)) 0) (fun k=>k=0) (fun k=>0) 0 ⟨rfl,rfl,⟨rfl,rfl,rfl,rfl,trivial⟩,rfl⟩ rfl (fun k hk=>?_);subst hk;have d0:decide (((0:Nat):Int)<((0:Nat):Int))=false:=by decide
  simp only[ixS,evE,Nat.reduceLT,Nat.reduceEqDiff,reduceCtorEq]
  rfl
 ·simp only[Tryz.f65,evE,tyX,Nat.reduceAdd,Nat.reduceSub,Nat.reduceLT,Nat.reduceEqDiff,reduceCtorEq];refine LoopE.intro (ixS γ (.sl b ts.length m cs) ts.length) (fun k=>k≤stN ts) (fun k=>ts.length-k) 0 ⟨rfl,rfl,⟨rfl,rfl,rfl,rfl,trivial⟩,rfl⟩ (BN _) (fun k hk=>?_);have hle:=stN_le ts
  by_cases hlt:k<ts.length
  ·have d2:decide (k<ts.length)=true:=decide_eq_true hlt;obtain⟨t,htk⟩:∃ t,ts[k]?=some t:=⟨ts[k],by simp[hlt]⟩;have h6:=LAt.take hcs htk;have h6l:6≤(cs.drop (k * 6)).length:=by have:=LAt.len hcs hlt;rw[Bd];omega
   have hok:=ht t (List.mem_of_getElem? htk);have w1:IntKind.i64.wrap ((k:Int)+1)=((k+1:Nat):Int):=(i64w (by omega) (by omega)).trans (by omega);simp only[ixS,d2,h6,h6l,evE,tyX,Nat.reduceLT,Nat.reduceEqDiff,reduceCtorEq];refine⟨hlt,CallM.intro c66 _ (EvM.ofEv (.inl ⟨rfl,rfl⟩) (read1_ev hγ hγ2 t hok.1 hok.2)) (fun r h' hh=>?_) (fun v h' hh=>by cases hh.1)⟩;obtain⟨e,rfl⟩:=hh;cases e;cases hs:standB t with
   |true=>
    simp only[w1,evE,Bv,Nat.reduceLT,Nat.reduceEqDiff,reduceCtorEq];exact loopCE.intro (k+1) (stN_lt hk htk hs) ⟨rfl,rfl,⟨rfl,rfl,rfl,rfl,trivial⟩,rfl⟩ (by show ts.length-(k+1)<ts.length-k;clear w1;omega)
   |false=>
    have ek:=stN_eq hk htk hs;have hi:idxR ts=(k:Int):=by unfold idxR;rw[←ek,if_pos hlt]
    rw[hi];simp only[evE,Bf,Nat.reduceLT,Nat.reduceEqDiff,reduceCtorEq]
  ·have d2:decide (k<ts.length)=false:=decide_eq_false hlt;have hi:idxR ts = -1:=by unfold idxR;rw[if_neg (by omega)]
   rw[hi];simp only[ixS,d2,evE,Nat.reduceLT,Nat.reduceEqDiff,reduceCtorEq]
def cutN(ts:List Tk)(p:Nat):Nat:=p+stN (ts.drop p)
def readR(ts:List Tk)(f:Int):List Nd×Int×Int:=
 if f<0∨(ts.length:Int)<f then ([],0,2)else match readP (ts.take (cutN ts f.toNat)) f.toNat with
  |.bad q=>([],q,50)
  |.ok t q=>if limK t.size t.deep=0 then (lay t 0,q,0)else ([],f,limK t.size t.deep)
theorem cutN_le{ts:List Tk}{p:Nat}(hp:p≤ts.length):cutN ts p≤ts.length:=by
 have:=stN_le (ts.drop p);rw[Bd]at this;unfold cutN;omega
theorem tkCells_append(a b:List Tk):tkCells (a++b)=tkCells a++tkCells b:=List.flatMap_append
theorem LAt_take{ts:List Tk}{cs:List AV}(h:tkCells ts<+:cs)(k:Nat):tkCells (ts.take k)<+:cs:=by
 refine List.IsPrefix.trans ?_ h;have:ts=ts.take k++ts.drop k:=(List.take_append_drop k ts).symm
 conv=>rhs;rw[this,tkCells_append]
 exact List.prefix_append _ _
theorem LAt_drop{ts:List Tk}{cs:List AV}(h:tkCells ts<+:cs){k:Nat}(hk:k≤ts.length):tkCells (ts.drop k)<+:cs.drop (k * 6):=by
 obtain⟨r,rfl⟩:=h;have e:ts=ts.take k++ts.drop k:=(List.take_append_drop k ts).symm;have hl:(tkCells (ts.take k)).length=k * 6:=by rw[tkCells_length,Bh,Nat.min_eq_left hk]
 conv=>rhs;rw[e,tkCells_append,Bo,←hl,List.drop_left]
 exact List.prefix_append _ _
def LAs(L:AV)(ts:List Tk):Prop:=(L=.v (.slice none 0 0)∧ts=[])∨∃ b m cs,L=.sl b ts.length m cs∧tkCells ts<+:cs∧cs.length≤m * 6∧ts.length≤m
theorem c26:bodyT Tp 26:=⟨_,Tryz.func26,by kernel_rfl,by kernel_rfl⟩
def n1:List UInt8:=[105,110,116]
def n2:List UInt8:=[114,101,97,108]
def n3:List UInt8:=[99,111,109,112]
def n4:List UInt8:=[116,101,120,116]
def n5:List UInt8:=[98,111,111,108]
def typeF(l:List UInt8):Int×Bool:=if l=n1 then (1,true)else if l=n2 then (2,true)else if l=n3 then (3,true)else if l=n4 then (4,true)else if l=n5 then (5,true)else (0,false)
structure Pt where
 tag:List UInt8
 vars:List (List UInt8)
structure Ac where
 kind:Int
 to:List Nd
 name:List UInt8
 var:List UInt8
 args:List (List Nd)
structure Ch where
 name:List UInt8
 parts:List Pt
 guard:List Nd
 body:List Ac
structure Tg where
 name:List UInt8
 types:List Int
structure Kd where
 name:List UInt8
 chords:List Ch
structure Pg where
 tags:List Tg
 kinds:List Kd
def slA(n:Nat)(cs:List AV):AV:=match n with
 |0=>.v (.slice none 0 0)
 |_+1=>.sl false n n cs
def strC(s:List UInt8):AV:=.v (.string ⟨s.toArray⟩)
def strsA(l:List (List UInt8)):AV:=slA l.length (l.map strC)
def intC(k:Int):AV:=.v (.int .i64 k)
def intsA(l:List Int):AV:=slA l.length (l.map intC)
def expsA(l:List (List Nd)):AV:=slA l.length (l.map nodesA)
def Pt.cells(p:Pt):List AV:=[strC p.tag,strsA p.vars]
def partsA(l:List Pt):AV:=slA l.length (l.flatMap Pt.cells)
def Ac.cells(a:Ac):List AV:=[intC a.kind,nodesA a.to,strC a.name,strC a.var,expsA a.args]
def actsA(l:List Ac):AV:=slA l.length (l.flatMap Ac.cells)
def Ch.cells(c:Ch):List AV:=[strC c.name,partsA c.parts,nodesA c.guard,actsA c.body]
def chordsA(l:List Ch):AV:=slA l.length (l.flatMap Ch.cells)
def Tg.cells(t:Tg):List AV:=[strC t.name,intsA t.types]
def tagsA(l:List Tg):AV:=slA l.length (l.flatMap Tg.cells)
def Kd.cells(k:Kd):List AV:=[strC k.name,chordsA k.chords]
def kindsA(l:List Kd):AV:=slA l.length (l.flatMap Kd.cells)
def Pg.cells(p:Pg):List AV:=[tagsA p.tags,kindsA p.kinds]
inductive DR(α:Type) where
 |ok (x:α) (p:Nat)
 |bad (q:Nat) (e:Int)
def DR.bind{α β:Type}(r:DR α)(f:α→Nat→DR β):DR β:=match r with
 |.ok x p=>f x p
 |.bad q e=>.bad q e
def kTag:List UInt8:=[116,97,103]
def kKind:List UInt8:=[107,105,110,100]
def kChord:List UInt8:=[99,104,111,114,100]
def kWhen:List UInt8:=[119,104,101,110]
def kSend:List UInt8:=[115,101,110,100]
def kSpawn:List UInt8:=[115,112,97,119,110]
def kAs:List UInt8:=[97,115]
def kReply:List UInt8:=[114,101,112,108,121]
def kBecome:List UInt8:=[98,101,99,111,109,101]
def kws:List (List UInt8):=[kTag,kKind,kChord,kWhen,kSend,kSpawn,kAs,kReply,kBecome]
def kwB(s:List UInt8):Bool:=decide (s∈kws)
def isB(ts:List Tk)(p:Nat)(s:List UInt8):Bool:=match ts[p]? with
 |some t=>decide ((t.kind=5∨t.kind=1)∧t.text=s)
 |none=>false
def wantD(ts:List Tk)(s:List UInt8)(p:Nat):DR Unit:=if isB ts p s=true then .ok () (p+1)else .bad p 80
def wordD(ts:List Tk)(p:Nat):DR (List UInt8):=match ts[p]? with
 |some t=>if t.kind=1∧kwB t.text=false then .ok t.text (p+1)else .bad p 80
 |none=>.bad p 80
def exprD(ts:List Tk)(p:Nat):DR (List Nd):=if (readR ts p).2.2=0 then .ok (readR ts p).1 (readR ts p).2.1.toNat else .bad (readR ts p).2.1.toNat (readR ts p).2.2
def kindD(ts:List Tk)(p:Nat):DR Int:=match ts[p]? with
 |some t=>if t.kind=1∧(typeF t.text).2=true∧(typeF t.text).1≠5 then .ok (typeF t.text).1 (p+1)else .bad p 80
 |none=>.bad p 80
def varD(ts:List Tk)(p:Nat):DR (List UInt8):=if isB ts p [95]=true then .ok [95] (p+1)else wordD ts p
def moreD{α:Type}(ts:List Tk)(I:Nat→DR α):Nat→List α→Nat→DR (List α)
 |0,_,p=>.bad p 80
 |f+1,l,p=>if isB ts p [41]=true then .ok l (p+1)else if isB ts p [44]=true then (I (p+1)).bind fun x q=>moreD ts I f (l++[x]) q else .bad p 80
def listD{α:Type}(ts:List Tk)(I:Nat→DR α)(p:Nat):DR (List α):=
 (wantD ts [40] p).bind fun _ p1=>if isB ts p1 [41]=true then .ok [] (p1+1)else (I p1).bind fun x q=>moreD ts I (ts.length+1) [x] q
def argsD(ts:List Tk)(p:Nat):DR (List (List Nd)):=listD ts (exprD ts) p
def tagD(ts:List Tk)(p:Nat):DR Tg:=(wordD ts p).bind fun n p1=>(listD ts (kindD ts) p1).bind fun l p2=>(wantD ts [59] p2).bind fun _ p3=>.ok ⟨n,l⟩ p3
def partD(ts:List Tk)(p:Nat):DR Pt:=(wordD ts p).bind fun n p1=>(listD ts (varD ts) p1).bind fun l p2=>.ok ⟨n,l⟩ p2
def actD(ts:List Tk)(p:Nat):DR Ac:=
 if isB ts p kSend=true then (exprD ts (p+1)).bind fun x p1=>(wordD ts p1).bind fun n p2=>(argsD ts p2).bind fun l p3=>.ok ⟨1,x,n,[],l⟩ p3
 else if isB ts p kSpawn=true then (wordD ts (p+1)).bind fun n p1=>(wantD ts kAs p1).bind fun _ p2=>(wordD ts p2).bind fun v p3=>.ok ⟨2,[],n,v,[]⟩ p3
 else if isB ts p kReply=true then (argsD ts (p+1)).bind fun l p1=>.ok ⟨3,[],[],[],l⟩ p1
 else if isB ts p kBecome=true then (wordD ts (p+1)).bind fun n p1=>.ok ⟨4,[],n,[],[]⟩ p1
 else .bad p 80
def actsD(ts:List Tk):Nat→List Ac→Nat→DR (List Ac)
 |0,_,p=>.bad p 80
 |f+1,l,p=>if isB ts p [125]=true then .ok l (p+1)else (actD ts p).bind fun a p1=>(wantD ts [59] p1).bind fun _ p2=>actsD ts f (l++[a]) p2
def bodyD(ts:List Tk)(p:Nat):DR (List Ac):=(wantD ts [123] p).bind fun _ p1=>actsD ts (ts.length+1) [] p1
def partsD(ts:List Tk):Nat→List Pt→Nat→DR (List Pt)
 |0,_,p=>.bad p 80
 |f+1,l,p=>if isB ts p [38]=true then (partD ts (p+1)).bind fun x q=>partsD ts f (l++[x]) q else .ok l p
def guardD(ts:List Tk)(p:Nat):DR (List Nd):=if isB ts p kWhen=true then exprD ts (p+1)else .ok [] p
def chordD(ts:List Tk)(p:Nat):DR Ch:=
 (wantD ts kChord p).bind fun _ p1=>(wordD ts p1).bind fun n p2=>(wantD ts [58] p2).bind fun _ p3=>(partD ts p3).bind fun x p4=>(partsD ts (ts.length+1) [x] p4).bind fun l p5=>(guardD ts p5).bind fun g p6=>(bodyD ts p6).bind fun b p7=>.ok ⟨n,l,g,b⟩ p7
def chordsD(ts:List Tk):Nat→List Ch→Nat→DR (List Ch)
 |0,_,p=>.bad p 80
 |f+1,l,p=>if isB ts p [125]=true then .ok l (p+1)else (chordD ts p).bind fun c q=>chordsD ts f (l++[c]) q
def kindD2(ts:List Tk)(p:Nat):DR Kd:=
 (wantD ts kKind p).bind fun _ p1=>(wordD ts p1).bind fun n p2=>(wantD ts [123] p2).bind fun _ p3=>(chordsD ts (ts.length+1) [] p3).bind fun l p4=>.ok ⟨n,l⟩ p4
def progD(ts:List Tk):Nat→Pg→Nat→DR Pg
 |0,_,p=>.bad p 80
 |f+1,g,p=>if p<ts.length then (if isB ts p kTag=true then (tagD ts (p+1)).bind fun t q=>progD ts f ⟨g.tags++[t],g.kinds⟩ q else (kindD2 ts p).bind fun k q=>progD ts f ⟨g.tags,g.kinds++[k]⟩ q)else .ok g p
def DR.adv{α:Type}(ts:List Tk)(p k:Nat):DR α→Prop
 |.ok _ q=>p+k≤q∧q≤ts.length
 |.bad q e=>q≤ts.length∧e≠0
theorem DR.adv_bind{α β:Type}{ts:List Tk}{p k:Nat}{r:DR α}{f:α→Nat→DR β}{j:Nat}(h:r.adv ts p j)(hf:∀ x q,r=.ok x q→p+j≤q→q≤ts.length→(f x q).adv ts p k):(r.bind f).adv ts p k:=by
 cases r with
 |ok x q=>exact hf x q rfl h.1 h.2
 |bad q e=>exact h
theorem DR.adv.le{α:Type}{ts:List Tk}{p p' k k':Nat}{r:DR α}(h:r.adv ts p k)(hk:p'+k'≤p+k):r.adv ts p' k':=by
 cases r with
 |ok x q=>exact⟨BM hk h.1,h.2⟩
 |bad q e=>exact h
theorem isB_lt{ts:List Tk}{p:Nat}{s:List UInt8}(h:isB ts p s=true):p<ts.length:=by
 unfold isB at h;cases e:ts[p]? with
 |none=>rw[e]at h;cases h
 |some t=>exact (Bs.1 e).1
theorem want_adv{ts:List Tk}{p:Nat}(hp:p≤ts.length)(s:List UInt8):(wantD ts s p).adv ts p 1:=by
 unfold wantD
 split
 ·rename_i h;exact⟨BL _,isB_lt h⟩
 ·exact⟨hp,by decide⟩
theorem word_adv{ts:List Tk}{p:Nat}(hp:p≤ts.length):(wordD ts p).adv ts p 1:=by
 unfold wordD
 split
 ·rename_i t e;have:=(Bs.1 e).1
  split
  ·exact⟨BL _,this⟩
  ·exact⟨hp,by decide⟩
 ·exact⟨hp,by decide⟩
theorem kind_adv{ts:List Tk}{p:Nat}(hp:p≤ts.length):(kindD ts p).adv ts p 1:=by
 unfold kindD
 split
 ·rename_i t e;have:=(Bs.1 e).1
  split
  ·exact⟨BL _,this⟩
  ·exact⟨hp,by decide⟩
 ·exact⟨hp,by decide⟩
theorem var_adv{ts:List Tk}{p:Nat}(hp:p≤ts.length):(varD ts p).adv ts p 1:=by
 unfold varD
 split
 ·rename_i h;exact⟨BL _,isB_lt h⟩
 ·exact word_adv hp
theorem pr_badq(ts:List Tk):∀ (f:Nat) (m:Md) (p q:Nat),p≤ts.length→pr ts f m p=.bad q→q≤ts.length:=by
 intro f
 induction f with
 |zero=>intro m p q hp h;cases m<;>(cases h;exact hp)
 |succ f ih=>
  intro m p q hp h;have adv:=pr_adv ts f;cases m with
  |bin n=>
   rw[pr]at h
   split at h
   ·exact ih _ _ _ hp h
   ·split at h
    ·rename_i e;cases h;exact ih _ _ _ hp e
    ·rename_i e;exact ih _ _ _ (adv _ _ _ _ hp e).2 h
  |lp n a=>
   rw[pr]at h
   split at h
   ·cases h
   ·rename_i hk;have hlt:=opK_lt (fun e=>hk (.inl e))
    split at h
    ·rename_i e;cases h;exact ih _ _ _ (by omega) e
    ·rename_i e
     split at h
     ·cases h
     ·exact ih _ _ _ (adv _ _ _ _ (by omega) e).2 h
  |un=>
   rw[pr]at h
   split at h
   ·rename_i hm;have hlt:p<ts.length:=hm.elim mkA_eq mkA_eq
    split at h
    ·rename_i e;cases h;exact ih _ _ _ (by omega) e
    ·cases h
   ·exact ih _ _ _ hp h
  |fs=>
   rw[pr]at h
   split at h
   ·rename_i hm;have hlt:p<ts.length:=mkA_eq hm
    split at h
    ·rename_i e;cases h;exact ih _ _ _ (by omega) e
    ·rename_i e
     split at h
     ·cases h
     ·cases h;exact (adv _ _ _ _ (by omega) e).2
   ·split at h
    ·cases h;exact hp
    ·rename_i t e;have hlt:p<ts.length:=(Bs.1 e).1
     repeat' split at h
     all_goals first|(cases h;done)|(cases h;exact hp)|exact ih _ _ _ (by omega) h
  |nm s=>
   rw[pr]at h
   split at h
   ·cases h
   split at h
   ·cases h
   split at h
   ·cases h
   split at h
   ·cases h;exact hp
   rename_i hm;have hlt:p<ts.length:=mkA_eq (Decidable.not_not.1 hm)
   split at h
   ·rename_i e;cases h;exact ih _ _ _ (by omega) e
   rename_i e;have h1:=(adv _ _ _ _ (by omega) e).2
   split at h
   ·split at h
    ·cases h;exact h1
    rename_i hm2;have hlt2:=mkA_eq (Decidable.not_not.1 hm2)
    split at h
    ·rename_i e2;cases h;exact ih _ _ _ (by omega) e2
    ·rename_i e2
     split at h
     ·cases h
     ·cases h;exact (adv _ _ _ _ (by omega) e2).2
   ·split at h
    ·cases h
    ·cases h;exact h1
theorem readR_adv{ts:List Tk}{p:Nat}(hp:p≤ts.length):((readR ts p).2.2=0→(p:Int)<(readR ts p).2.1)∧0≤(readR ts p).2.1∧(readR ts p).2.1≤ts.length:=by
 unfold readR;rw[if_neg (by omega),Int.toNat_natCast];have hc:=cutN_le hp;have hcl:(ts.take (cutN ts p)).length=cutN ts p:=by rw[Bh];omega
 have hpc:p≤(ts.take (cutN ts p)).length:=by rw[hcl];unfold cutN;omega
 cases e:readP (ts.take (cutN ts p)) p with
 |bad q=>
  have:=pr_badq _ _ _ _ _ hpc e
  dsimp only
  exact⟨fun h=>absurd h (by decide),by omega,by omega⟩
 |ok t q=>
  obtain⟨⟨h1,_⟩,h2⟩:=pr_adv _ _ _ _ _ _ hpc e
  dsimp only
  split
  ·dsimp only
   exact⟨fun _=>by omega,by omega,by omega⟩
  ·rename_i hk
   dsimp only
   exact⟨fun h=>absurd h hk,by omega,by omega⟩
theorem expr_adv{ts:List Tk}{p:Nat}(hp:p≤ts.length):(exprD ts p).adv ts p 1:=by
 obtain⟨h1,h2,h3⟩:=readR_adv hp;unfold exprD
 split
 ·rename_i h;have:=h1 h;exact⟨by omega,by omega⟩
 ·rename_i h;exact⟨by omega,h⟩
theorem more_adv{α:Type}{ts:List Tk}{I:Nat→DR α}(hI:∀ p,p≤ts.length→(I p).adv ts p 1):∀ (f:Nat) (l:List α) (p:Nat),p≤ts.length→(moreD ts I f l p).adv ts p 1
 |0,l,p,hp=>⟨hp,by decide⟩
 |f+1,l,p,hp=>by
  rw[moreD]
  split
  ·rename_i h;exact⟨BL _,isB_lt h⟩
  split
  ·rename_i h;have:=isB_lt h;exact DR.adv_bind (j:=2) ((hI (p+1) this).le (by omega)) fun x q _ h1 h2=>(more_adv hI f _ q h2).le (by omega)
  ·exact⟨hp,by decide⟩
theorem list_adv{α:Type}{ts:List Tk}{I:Nat→DR α}(hI:∀ p,p≤ts.length→(I p).adv ts p 1){p:Nat}(hp:p≤ts.length):(listD ts I p).adv ts p 1:=by
 unfold listD;refine DR.adv_bind (want_adv hp _) fun _ p1 _ h1 h2=>?_
 split
 ·rename_i h;exact⟨by omega,isB_lt h⟩
 ·exact DR.adv_bind (j:=2) ((hI p1 h2).le (by omega)) fun x q _ h3 h4=>(more_adv hI _ _ q h4).le (by omega)
theorem args_adv{ts:List Tk}{p:Nat}(hp:p≤ts.length):(argsD ts p).adv ts p 1:=list_adv (fun _=>expr_adv) hp
theorem tag_adv{ts:List Tk}{p:Nat}(hp:p≤ts.length):(tagD ts p).adv ts p 1:=by
 unfold tagD;refine DR.adv_bind (word_adv hp) fun n p1 _ h1 h2=>?_
 refine DR.adv_bind (j:=2) ((list_adv (fun _=>kind_adv) h2).le (by omega)) fun n p2 _ h3 h4=>?_
 exact DR.adv_bind (j:=2) ((want_adv h4 _).le (by omega)) fun n p3 _ h5 h6=>⟨by omega,h6⟩
theorem part_adv{ts:List Tk}{p:Nat}(hp:p≤ts.length):(partD ts p).adv ts p 1:=by
 unfold partD;refine DR.adv_bind (word_adv hp) fun n p1 _ h1 h2=>?_
 exact DR.adv_bind (j:=2) ((list_adv (fun _=>var_adv) h2).le (by omega)) fun n p2 _ h3 h4=>⟨by omega,h4⟩
theorem act_adv{ts:List Tk}{p:Nat}(hp:p≤ts.length):(actD ts p).adv ts p 1:=by
 unfold actD
 split
 ·rename_i h;have hl:=isB_lt h;refine DR.adv_bind (j:=2) ((expr_adv hl).le (by omega)) fun n p1 _ h1 h2=>?_
  refine DR.adv_bind (j:=2) ((word_adv h2).le (by omega)) fun n p1 _ h1 h2=>?_
  exact DR.adv_bind (j:=2) ((args_adv h2).le (by omega)) fun n p1 _ h1 h2=>⟨by omega,h2⟩
 split
 ·rename_i h;have hl:=isB_lt h;refine DR.adv_bind (j:=2) ((word_adv hl).le (by omega)) fun n p1 _ h1 h2=>?_
  refine DR.adv_bind (j:=2) ((want_adv h2 _).le (by omega)) fun n p1 _ h1 h2=>?_
  exact DR.adv_bind (j:=2) ((word_adv h2).le (by omega)) fun n p1 _ h1 h2=>⟨by omega,h2⟩
 split
 ·rename_i h;have hl:=isB_lt h;exact DR.adv_bind (j:=2) ((args_adv hl).le (by omega)) fun n p1 _ h1 h2=>⟨by omega,h2⟩
 split
 ·rename_i h;have hl:=isB_lt h;exact DR.adv_bind (j:=2) ((word_adv hl).le (by omega)) fun n p1 _ h1 h2=>⟨by omega,h2⟩
 ·exact⟨hp,by decide⟩
theorem acts_adv{ts:List Tk}:∀ (f:Nat) (l:List Ac) (p:Nat),p≤ts.length→(actsD ts f l p).adv ts p 1
 |0,l,p,hp=>⟨hp,by decide⟩
 |f+1,l,p,hp=>by
  rw[actsD]
  split
  ·rename_i h;exact⟨BL _,isB_lt h⟩
  ·refine DR.adv_bind (act_adv hp) fun a p1 _ h1 h2=>?_
   refine DR.adv_bind (j:=2) ((want_adv h2 _).le (by omega)) fun _ p2 _ h3 h4=>?_
   exact (acts_adv f _ p2 h4).le (by omega)
theorem body_adv{ts:List Tk}{p:Nat}(hp:p≤ts.length):(bodyD ts p).adv ts p 1:=by
 unfold bodyD;exact DR.adv_bind (want_adv hp _) fun _ p1 _ h1 h2=>(acts_adv _ _ p1 h2).le (by omega)
theorem parts_adv{ts:List Tk}:∀ (f:Nat) (l:List Pt) (p:Nat),p≤ts.length→(partsD ts f l p).adv ts p 0
 |0,l,p,hp=>⟨hp,by decide⟩
 |f+1,l,p,hp=>by
  rw[partsD]
  split
  ·rename_i h;exact DR.adv_bind (j:=2) ((part_adv (isB_lt h)).le (by omega)) fun x q _ h1 h2=>(parts_adv f _ q h2).le (by omega)
  ·exact⟨BL _,hp⟩
theorem guard_adv{ts:List Tk}{p:Nat}(hp:p≤ts.length):(guardD ts p).adv ts p 0:=by
 unfold guardD
 split
 ·rename_i h;exact (expr_adv (isB_lt h)).le (by omega)
 ·exact⟨BL _,hp⟩
theorem chord_adv{ts:List Tk}{p:Nat}(hp:p≤ts.length):(chordD ts p).adv ts p 1:=by
 unfold chordD;refine DR.adv_bind (want_adv hp _) fun _ p1 _ h1 h2=>?_
 refine DR.adv_bind (j:=2) ((word_adv h2).le (by omega)) fun n p2 _ h3 h4=>?_
 refine DR.adv_bind (j:=2) ((want_adv h4 _).le (by omega)) fun _ p3 _ h5 h6=>?_
 refine DR.adv_bind (j:=2) ((part_adv h6).le (by omega)) fun _ p4 _ h7 h8=>?_
 refine DR.adv_bind (j:=2) ((parts_adv _ _ _ h8).le (by omega)) fun _ p5 _ h9 h10=>?_
 refine DR.adv_bind (j:=2) ((guard_adv h10).le (by omega)) fun _ p6 _ h11 h12=>?_
 exact DR.adv_bind (j:=2) ((body_adv h12).le (by omega)) fun _ p7 _ h13 h14=>⟨by omega,h14⟩
theorem chords_adv{ts:List Tk}:∀ (f:Nat) (l:List Ch) (p:Nat),p≤ts.length→(chordsD ts f l p).adv ts p 1
 |0,l,p,hp=>⟨hp,by decide⟩
 |f+1,l,p,hp=>by
  rw[chordsD]
  split
  ·rename_i h;exact⟨BL _,isB_lt h⟩
  ·exact DR.adv_bind (chord_adv hp) fun a p1 _ h1 h2=>(chords_adv f _ p1 h2).le (by omega)
theorem kind2_adv{ts:List Tk}{p:Nat}(hp:p≤ts.length):(kindD2 ts p).adv ts p 1:=by
 unfold kindD2;refine DR.adv_bind (want_adv hp _) fun _ p1 _ h1 h2=>?_
 refine DR.adv_bind (j:=2) ((word_adv h2).le (by omega)) fun n p2 _ h3 h4=>?_
 refine DR.adv_bind (j:=2) ((want_adv h4 _).le (by omega)) fun _ p3 _ h5 h6=>?_
 exact DR.adv_bind (j:=2) ((chords_adv _ _ _ h6).le (by omega)) fun _ p4 _ h7 h8=>⟨by omega,h8⟩
theorem prog_adv{ts:List Tk}:∀ (f:Nat) (g:Pg) (p:Nat),p≤ts.length→(progD ts f g p).adv ts p 0
 |0,l,p,hp=>⟨hp,by decide⟩
 |f+1,l,p,hp=>by
  rw[progD]
  split
  ·split
   ·rename_i h;exact DR.adv_bind (j:=2) ((tag_adv (isB_lt h)).le (by omega)) fun a p1 _ h1 h2=>(prog_adv f _ p1 h2).le (by omega)
   ·exact DR.adv_bind (kind2_adv hp) fun a p1 _ h1 h2=>(prog_adv f _ p1 h2).le (by omega)
  ·exact⟨by omega,hp⟩
def Old(n:Nat)(k:Nat):Prop:=k<n
end Go.Proofs.YtlobiioioicmhaaGreatDoor
namespace Go.Proofs.YtlobiioioicmhaaGreatDoor.O
open _root_.Bool renaming not_true→Bv,not_false→Bf
open _root_.List renaming getElem?_eq_some_iff→Bs,getElem?_set_self→Be,length_set→Bl,length_append→Bp,append_assoc→Bo,cons_append→Bc,getElem?_eq_none→Bq,length_drop→Bd,length_take→Bh,prefix_rfl→BB,length_cons→BC,mem_cons→BI,append_nil→BS,set_append_right→BV
open _root_.Nat renaming le_refl→BL,le_trans→BM,zero_le→BN
open Go.Proofs.Tryz renaming prog→Tp
open Go Go.Ev
inductive Ki where
 |v
 |s (t:TypeId)
 |g (ks:List Ki)
def kT(t:TypeId):List Ki:=
 if t=137 then [.v,.s 3]else if t=90 then [.v,.s 59]else if t=59 then [.v,.s 130,.s 115,.s 135]else if t=130 then [.v,.s 9]
 else if t=135 then [.v,.s 115,.v,.v,.s 41]else if t=41 then [.s 115]else if t=9 then [.v]else if t=3 then [.v]else if t=115 then List.replicate 9 .v else []
def rows(t:TypeId)(n:Nat):List Ki:=(List.replicate n (kT t)).flatten
theorem rows_one(t:TypeId):rows t 1=kT t:=by simp[rows]
theorem rows_succ(t:TypeId)(n:Nat):rows t (n+1)=rows t n++kT t:=by
 simp only[rows,List.replicate_succ',List.flatten_append,List.flatten_cons,List.flatten_nil,BS]
theorem rows_cons(t:TypeId)(n:Nat):rows t (n+1)=kT t++rows t n:=by
 simp only[rows,List.replicate_succ,List.flatten_cons]
mutual
def ow:AV→List ABlk→Ki→AV→List Nat→Prop
 |.v a,_,k,x,F=>(k=.v∨∃ t,k=.s t∧a=.slice none 0 0)∧x=.v a∧F=[]
 |.sl b n m ys,h,k,x,F=>b=false∧m=n∧0<n∧∃ t i ver xs F',k=.s t∧x=.own i ver n∧h[i]?=some ⟨ver,t,xs⟩∧F=i::F'∧owL ys h (rows t n) xs F'
 |.agg ys,h,k,x,F=>∃ ks xs,k=.g ks∧x=.agg xs∧owL ys h ks xs F
 |_,_,_,_,_=>False
def owL:List AV→List ABlk→List Ki→List AV→List Nat→Prop
 |[],_,ks,xs,F=>ks=[]∧xs=[]∧F=[]
 |y::ys,h,ks,xs,F=>∃ k ks' x xs' F1 F2,ks=k::ks'∧xs=x::xs'∧F=F1++F2∧ow y h k x F1∧owL ys h ks' xs' F2
end
mutual
theorem ow_fr{h h':List ABlk}:∀ (y:AV) (k:Ki) (x:AV) (F:List Nat),(∀ j∈F,h'[j]?=h[j]?)→ow y h k x F→ow y h' k x F
 |.v a,k,x,F,hf,o=>by simp only[ow]at o⊢;exact o
 |.sl b n m ys,k,x,F,hf,o=>by
  simp only[ow]at o⊢;obtain⟨h1,h2,h3,t,i,ver,xs,F',e1,e2,e3,rfl,e5⟩:=o;exact⟨h1,h2,h3,t,i,ver,xs,F',e1,e2,(hf i (List.mem_cons_self ..)).trans e3,rfl,owL_fr ys _ _ _ (fun j hj=>hf j (List.mem_cons_of_mem _ hj)) e5⟩
 |.agg ys,k,x,F,hf,o=>by
  simp only[ow]at o⊢;obtain⟨ks,xs,e1,e2,e3⟩:=o;exact⟨ks,xs,e1,e2,owL_fr ys _ _ _ hf e3⟩
 |.nan,_,_,_,_,o=>by simp only[ow]at o
 |.ela _ _,_,_,_,_,o=>by simp only[ow]at o
 |.tup _,_,_,_,_,o=>by simp only[ow]at o
 |.ifc _ _,_,_,_,_,o=>by simp only[ow]at o
 |.own _ _ _,_,_,_,_,o=>by simp only[ow]at o
 |.ptr _ _ _,_,_,_,_,o=>by simp only[ow]at o
 |.clo _ _ _,_,_,_,_,o=>by simp only[ow]at o
 |.bad,_,_,_,_,o=>by simp only[ow]at o
theorem owL_fr{h h':List ABlk}:∀ (ys:List AV) (ks:List Ki) (xs:List AV) (F:List Nat),(∀ j∈F,h'[j]?=h[j]?)→owL ys h ks xs F→owL ys h' ks xs F
 |[],ks,xs,F,hf,o=>by simp only[owL]at o⊢;exact o
 |y::ys,ks,xs,F,hf,o=>by
  simp only[owL]at o⊢;obtain⟨k,ks',x,xs',F1,F2,e1,e2,rfl,e4,e5⟩:=o;exact⟨k,ks',x,xs',F1,F2,e1,e2,rfl,ow_fr y _ _ _ (fun j hj=>hf j (List.mem_append_left _ hj)) e4,owL_fr ys _ _ _ (fun j hj=>hf j (List.mem_append_right _ hj)) e5⟩
end
mutual
theorem ow_lt{h:List ABlk}:∀ (y:AV) (k:Ki) (x:AV) (F:List Nat),ow y h k x F→∀ j∈F,j<h.length
 |.v a,k,x,F,o=>by simp only[ow]at o;obtain⟨_,_,rfl⟩:=o;simp
 |.sl b n m ys,k,x,F,o=>by
  simp only[ow]at o;obtain⟨h1,h2,h3,t,i,ver,xs,F',e1,e2,e3,rfl,e5⟩:=o;intro j hj
  rcases BI.1 hj with rfl|hj
  ·exact (Bs.1 e3).1
  ·exact owL_lt ys _ _ _ e5 j hj
 |.agg ys,k,x,F,o=>by
  simp only[ow]at o;obtain⟨ks,xs,e1,e2,e3⟩:=o;exact owL_lt ys _ _ _ e3
 |.nan,_,_,_,o=>by simp only[ow]at o
 |.ela _ _,_,_,_,o=>by simp only[ow]at o
 |.tup _,_,_,_,o=>by simp only[ow]at o
 |.ifc _ _,_,_,_,o=>by simp only[ow]at o
 |.own _ _ _,_,_,_,o=>by simp only[ow]at o
 |.ptr _ _ _,_,_,_,o=>by simp only[ow]at o
 |.clo _ _ _,_,_,_,o=>by simp only[ow]at o
 |.bad,_,_,_,o=>by simp only[ow]at o
theorem owL_lt{h:List ABlk}:∀ (ys:List AV) (ks:List Ki) (xs:List AV) (F:List Nat),owL ys h ks xs F→∀ j∈F,j<h.length
 |[],ks,xs,F,o=>by simp only[owL]at o;obtain⟨_,_,rfl⟩:=o;simp
 |y::ys,ks,xs,F,o=>by
  simp only[owL]at o;obtain⟨k,ks',x,xs',F1,F2,e1,e2,rfl,e4,e5⟩:=o;intro j hj
  rcases List.mem_append.1 hj with hj|hj
  ·exact ow_lt y _ _ _ e4 j hj
  ·exact owL_lt ys _ _ _ e5 j hj
end
mutual
theorem ow_fz{h:List ABlk}:∀ (y:AV) (k:Ki) (x:AV) (F:List Nat),ow y h k x F→fz Tp h false y x
 |.v a,k,x,F,o=>by simp only[ow]at o;obtain⟨_,rfl,rfl⟩:=o;simp only[Go.Ev.fz]
 |.sl b n m ys,k,x,F,o=>by
  simp only[ow]at o;obtain⟨rfl,rfl,h3,t,i,ver,xs,F',e1,rfl,e3,rfl,e5⟩:=o;simp only[Go.Ev.fz];exact .inr ⟨trivial,i,_,xs,rfl,e3,BL _,.inl trivial,BB,owL_fz ys _ _ _ e5⟩
 |.agg ys,k,x,F,o=>by
  simp only[ow]at o;obtain⟨ks,xs,e1,rfl,e3⟩:=o;simp only[Go.Ev.fz];exact⟨xs,rfl,owL_fz ys _ _ _ e3⟩
 |.nan,_,_,_,o=>by simp only[ow]at o
 |.ela _ _,_,_,_,o=>by simp only[ow]at o
 |.tup _,_,_,_,o=>by simp only[ow]at o
 |.ifc _ _,_,_,_,o=>by simp only[ow]at o
 |.own _ _ _,_,_,_,o=>by simp only[ow]at o
 |.ptr _ _ _,_,_,_,o=>by simp only[ow]at o
 |.clo _ _ _,_,_,_,o=>by simp only[ow]at o
 |.bad,_,_,_,o=>by simp only[ow]at o
theorem owL_fz{h:List ABlk}:∀ (ys:List AV) (ks:List Ki) (xs:List AV) (F:List Nat),owL ys h ks xs F→fzL Tp h false ys xs
 |[],ks,xs,F,o=>by simp only[owL]at o;obtain⟨_,rfl,_⟩:=o;simp only[fzL]
 |y::ys,ks,xs,F,o=>by
  simp only[owL]at o;obtain⟨k,ks',x,xs',F1,F2,e1,rfl,rfl,e4,e5⟩:=o;simp only[fzL];exact⟨x,xs',rfl,ow_fz y _ _ _ e4,owL_fz ys _ _ _ e5⟩
end
theorem owL_append{h:List ABlk}:∀ {ys ys':List AV} {ks ks':List Ki} {xs xs':List AV} {F F':List Nat},owL ys h ks xs F→owL ys' h ks' xs' F'→owL (ys++ys') h (ks++ks') (xs++xs') (F++F')
 |[],ys',ks,ks',xs,xs',F,F',a,b=>by simp only[owL]at a;obtain⟨rfl,rfl,rfl⟩:=a;exact b
 |y::ys,ys',ks,ks',xs,xs',F,F',a,b=>by
  simp only[owL]at a;obtain⟨k,ks1,x,xs1,F1,F2,rfl,rfl,rfl,e4,e5⟩:=a;simp only[Bc,owL];exact⟨k,_,x,_,F1,F2++F',rfl,rfl,by rw[Bo],e4,owL_append e5 b⟩
theorem owL_length{h:List ABlk}:∀ {ys:List AV} {ks:List Ki} {xs:List AV} {F:List Nat},owL ys h ks xs F→xs.length=ks.length∧ys.length=ks.length
 |[],ks,xs,F,a=>by simp only[owL]at a;obtain⟨rfl,rfl,rfl⟩:=a;exact⟨rfl,rfl⟩
 |y::ys,ks,xs,F,a=>by
  simp only[owL]at a;obtain⟨k,ks1,x,xs1,F1,F2,rfl,rfl,rfl,e4,e5⟩:=a;have:=owL_length e5;simp only[BC];omega
def Rd(k:Ki)(S:Nat→Prop)(h:List ABlk)(y x:AV):Prop:=∃ F,F.Nodup∧(∀ j∈F,¬S j)∧ow y h k x F
def RdL(ks:List Ki)(S:Nat→Prop)(h:List ABlk)(ys xs:List AV):Prop:=∃ F,F.Nodup∧(∀ j∈F,¬S j)∧owL ys h ks xs F
theorem Rd.fz{k:Ki}{S:Nat→Prop}{h:List ABlk}{y x:AV}(a:Rd k S h y x):Go.Ev.fz Tp h false y x:=by
 obtain⟨F,_,_,o⟩:=a;exact ow_fz _ _ _ _ o
theorem Rd.up{k:Ki}{S S' S1:Nat→Prop}{h2 h3:List ABlk}{y x:AV}(a:Rd k S h2 y x)(f:Fr S1 h2 h3)(h1:∀ k,S1 k→k<h2.length→S k)(h1':∀ k,S' k→k<h2.length→S k):Rd k S' h3 y x:=by
 obtain⟨F,hn,hs,o⟩:=a;have hl:=ow_lt _ _ _ _ o;exact⟨F,hn,fun j hj hs'=>hs j hj (h1' j hs' (hl j hj)),ow_fr _ _ _ _ (fun j hj=>f.2 j (hl j hj) fun e=>hs j hj (h1 j e (hl j hj))) o⟩
theorem RdL.up{ks:List Ki}{S S' S1:Nat→Prop}{h2 h3:List ABlk}{y x:List AV}(a:RdL ks S h2 y x)(f:Fr S1 h2 h3)(h1:∀ k,S1 k→k<h2.length→S k)(h1':∀ k,S' k→k<h2.length→S k):RdL ks S' h3 y x:=by
 obtain⟨F,hn,hs,o⟩:=a;have hl:=owL_lt _ _ _ _ o;exact⟨F,hn,fun j hj hs'=>hs j hj (h1' j hs' (hl j hj)),owL_fr _ _ _ _ (fun j hj=>f.2 j (hl j hj) fun e=>hs j hj (h1 j e (hl j hj))) o⟩
theorem Rd.weak{k:Ki}{S S':Nat→Prop}{h:List ABlk}{y x:AV}(a:Rd k S h y x)(h1:∀ k,S' k→k<h.length→S k):Rd k S' h y x:=a.up (Fr.refl NoB h) (fun k e=>e.elim) h1
theorem RdL.weak{ks:List Ki}{S S':Nat→Prop}{h:List ABlk}{y x:List AV}(a:RdL ks S h y x)(h1:∀ k,S' k→k<h.length→S k):RdL ks S' h y x:=a.up (Fr.refl NoB h) (fun k e=>e.elim) h1
theorem RdL.nil{S:Nat→Prop}{h:List ABlk}:RdL [] S h [] []:=⟨[],.nil,fun _ h=>(List.not_mem_nil h).elim,by simp only[owL];exact⟨trivial,trivial,trivial⟩⟩
theorem RdL.cv{ks:List Ki}{S:Nat→Prop}{h:List ABlk}{v:Value}{ys xs:List AV}(b:RdL ks S h ys xs):RdL (.v::ks) S h (.v v::ys) (.v v::xs):=by
 obtain⟨F,hn,hs,o⟩:=b;refine⟨F,hn,hs,?_⟩;simp only[owL];exact⟨.v,ks,.v v,xs,[],F,rfl,rfl,rfl,by simp only[ow];exact⟨.inl trivial,trivial,trivial⟩,o⟩
theorem Rd.none{t:TypeId}{S:Nat→Prop}{h:List ABlk}:Rd (.s t) S h (.v (.slice none 0 0)) (.v (.slice none 0 0)):=⟨[],.nil,fun _ h=>(List.not_mem_nil h).elim,by simp only[ow];exact⟨.inr ⟨t,rfl,trivial⟩,trivial,trivial⟩⟩
theorem RdL.c2{k:Ki}{ks:List Ki}{S S1 S2:Nat→Prop}{h:List ABlk}{y x:AV}{ys xs:List AV}(a:Rd k S1 h y x)(b:RdL ks S2 h ys xs)(d:∀ j,j<h.length→S1 j∨S2 j)(e1:∀ j,S j→j<h.length→S1 j)(e2:∀ j,S j→j<h.length→S2 j):RdL (k::ks) S h (y::ys) (x::xs):=by
 obtain⟨F,hn,hs,o⟩:=a;obtain⟨F',hn',hs',o'⟩:=b;have hl:=ow_lt _ _ _ _ o;have hl':=owL_lt _ _ _ _ o';refine⟨F++F',List.nodup_append.2 ⟨hn,hn',fun j hj j' hj' e=>?_⟩,fun j hj hS=>?_,?_⟩
 ·subst e;exact (d j (hl j hj)).elim (hs j hj) (hs' j hj')
 ·rcases List.mem_append.1 hj with hj|hj
  ·exact hs j hj (e1 j hS (hl j hj))
  ·exact hs' j hj (e2 j hS (hl' j hj))
 ·simp only[owL];exact⟨k,ks,x,xs,F,F',rfl,rfl,rfl,o,o'⟩
theorem RdL.c1{k:Ki}{S:Nat→Prop}{h:List ABlk}{y x:AV}(a:Rd k S h y x):RdL [k] S h [y] [x]:=RdL.c2 (S:=S) (S2:=fun _=>True) a RdL.nil (fun _ _=>.inr trivial) (fun _ e _=>e) (fun _ _ _=>trivial)
theorem RdL.app2{ks ks':List Ki}{S S1 S2:Nat→Prop}{h:List ABlk}{ys xs ys' xs':List AV}(a:RdL ks S1 h ys xs)(b:RdL ks' S2 h ys' xs')(d:∀ j,j<h.length→S1 j∨S2 j)(e1:∀ j,S j→j<h.length→S1 j)(e2:∀ j,S j→j<h.length→S2 j):RdL (ks++ks') S h (ys++ys') (xs++xs'):=by
 obtain⟨F,hn,hs,o⟩:=a;obtain⟨F',hn',hs',o'⟩:=b;have hl:=owL_lt _ _ _ _ o;have hl':=owL_lt _ _ _ _ o';refine⟨F++F',List.nodup_append.2 ⟨hn,hn',fun j hj j' hj' e=>?_⟩,fun j hj hS=>?_,owL_append o o'⟩
 ·subst e;exact (d j (hl j hj)).elim (hs j hj) (hs' j hj')
 ·rcases List.mem_append.1 hj with hj|hj
  ·exact hs j hj (e1 j hS (hl j hj))
  ·exact hs' j hj (e2 j hS (hl' j hj))
theorem Rd.agg{ks:List Ki}{S:Nat→Prop}{h:List ABlk}{ys xs:List AV}(a:RdL ks S h ys xs):Rd (.g ks) S h (.agg ys) (.agg xs):=by
 obtain⟨F,hn,hs,o⟩:=a;refine⟨F,hn,hs,?_⟩;simp only[ow];exact⟨ks,xs,rfl,rfl,o⟩
def GLm(m n0:Nat)(t:TypeId)(sz:Nat)(h:List ABlk)(N:AV)(n:Nat)(ys:List AV):Prop:=
 (N=.v (.slice none 0 0)∧n=0∧ys=[])∨∃ j ver xs,N=.own j ver n∧0<n∧n0≤j∧h[j]?=some ⟨ver,t,xs⟩∧xs.length=n * sz∧j<m∧RdL (rows t n) (fun k=>k<n0∨k=j∨m≤k) h ys xs
def GL(n0:Nat)(t:TypeId)(sz:Nat)(h:List ABlk)(N:AV)(n:Nat)(ys:List AV):Prop:=GLm h.length n0 t sz h N n ys
theorem GLm.nil{m n0:Nat}{t:TypeId}{sz:Nat}{h:List ABlk}:GLm m n0 t sz h (.v (.slice none 0 0)) 0 []:=.inl ⟨rfl,rfl,rfl⟩
theorem GL.nil{n0:Nat}{t:TypeId}{sz:Nat}{h:List ABlk}:GL n0 t sz h (.v (.slice none 0 0)) 0 []:=GLm.nil
theorem GLm.le{m m' n0:Nat}{t:TypeId}{sz:Nat}{h:List ABlk}{N:AV}{n:Nat}{ys:List AV}(a:GLm m n0 t sz h N n ys)(hm:m≤m'):GLm m' n0 t sz h N n ys:=by
 rcases a with a|⟨j,ver,xs,rfl,hn,hj0,hj,hl,hjm,hr⟩
 ·exact .inl a
 ·exact .inr ⟨j,ver,xs,rfl,hn,hj0,hj,hl,by omega,hr.weak fun k e _=>e.imp id fun e=>e.imp id fun e=>by omega⟩
theorem GLm.lt{m n0:Nat}{t:TypeId}{sz:Nat}{h:List ABlk}{N:AV}{n:Nat}{ys:List AV}(a:GLm m n0 t sz h N n ys){k:Nat}(hk:nbk N k):n0≤k∧k<m∧k<h.length:=by
 rcases a with⟨rfl,_⟩|⟨j,ver,xs,rfl,hn,hj0,hj,hl,hjm,hr⟩
 ·exact hk.elim
 ·have hk':k=j:=hk;subst hk';exact⟨hj0,hjm,(Bs.1 hj).1⟩
theorem GL.lt{n0:Nat}{t:TypeId}{sz:Nat}{h:List ABlk}{N:AV}{n:Nat}{ys:List AV}(a:GL n0 t sz h N n ys){k:Nat}(hk:nbk N k):n0≤k∧k<h.length:=⟨(GLm.lt a hk).1,(GLm.lt a hk).2.1⟩
theorem GLm.fr{m n0:Nat}{t:TypeId}{sz:Nat}{h h':List ABlk}{N:AV}{n:Nat}{ys:List AV}{S:Nat→Prop}(a:GLm m n0 t sz h N n ys)(f:Fr S h h')(hS:∀ k,S k→k<h.length→(k<n0∨m≤k)∧¬nbk N k):GLm m n0 t sz h' N n ys:=by
 rcases a with a|⟨j,ver,xs,rfl,hn,hj0,hj,hl,hjm,hr⟩
 ·exact .inl a
 ·have hjl:=(Bs.1 hj).1;exact .inr ⟨j,ver,xs,rfl,hn,hj0,f.at hj (fun e=>(hS j e hjl).2 rfl),hl,hjm,hr.up f (fun k e hk=>(hS k e hk).1.imp id .inr) (fun k e _=>e)⟩
theorem GL.frm{n0:Nat}{t:TypeId}{sz:Nat}{h h':List ABlk}{N:AV}{n:Nat}{ys:List AV}{S:Nat→Prop}(a:GL n0 t sz h N n ys)(f:Fr S h h')(hS:∀ k,S k→k<h.length→k<n0∧¬nbk N k):GLm h.length n0 t sz h' N n ys:=
 GLm.fr a f fun k e hk=>⟨.inl (hS k e hk).1,(hS k e hk).2⟩
theorem GL.frm0{n0:Nat}{t:TypeId}{sz:Nat}{h h':List ABlk}{N:AV}{n:Nat}{ys:List AV}{S:Nat→Prop}(a:GL n0 t sz h N n ys)(f:Fr S h h')(hS:∀ k,S k→k<n0):GLm h.length n0 t sz h' N n ys:=
 a.frm f fun k e _=>⟨hS k e,fun hk=>by have:=(a.lt hk).1;have:=hS k e;omega⟩
theorem GL.fr0{n0:Nat}{t:TypeId}{sz:Nat}{h h':List ABlk}{N:AV}{n:Nat}{ys:List AV}{S:Nat→Prop}(a:GL n0 t sz h N n ys)(f:Fr S h h')(hS:∀ k,S k→k<n0):GL n0 t sz h' N n ys:=(a.frm0 f hS).le f.1
theorem GLm.one{m n0:Nat}{t:TypeId}{sz:Nat}{h:List ABlk}{N:AV}{n:Nat}{ys:List AV}(a:GLm m n0 t sz h N n ys):oneA N=true∧flat N=some [N]:=by rcases a with⟨rfl,_⟩|⟨j,ver,cs,rfl,_⟩<;>exact⟨rfl,rfl⟩
theorem GL.one{n0:Nat}{t:TypeId}{sz:Nat}{h:List ABlk}{N:AV}{n:Nat}{ys:List AV}(a:GL n0 t sz h N n ys):oneA N=true∧flat N=some [N]:=GLm.one a
theorem GLm.rd{m n0:Nat}{t:TypeId}{sz:Nat}{h:List ABlk}{N:AV}{n:Nat}{ys:List AV}(a:GLm m n0 t sz h N n ys):Rd (.s t) (fun k=>k<n0∨m≤k) h (slA n ys) N:=by
 rcases a with⟨rfl,rfl,rfl⟩|⟨j,ver,xs,rfl,hn,hj0,hj,hl,hjm,F,hF,hs,o⟩
 ·exact Rd.none
 ·obtain⟨n,rfl⟩:∃ m,n=m+1:=⟨n-1,by omega⟩;refine⟨j::F,List.nodup_cons.2 ⟨fun e=>hs j e (.inr (.inl rfl)),hF⟩,fun k hk e=>?_,?_⟩
  ·rcases BI.1 hk with rfl|hk
   ·rcases e with e|e<;>omega
   ·exact hs k hk (e.imp id .inr)
  ·simp only[slA,ow];exact⟨trivial,trivial,hn,t,j,ver,xs,F,rfl,rfl,hj,rfl,o⟩
theorem GL.rd{n0:Nat}{t:TypeId}{sz:Nat}{h:List ABlk}{N:AV}{n:Nat}{ys:List AV}(a:GL n0 t sz h N n ys):Rd (.s t) (Old n0) h (slA n ys) N:=(GLm.rd a).weak fun k e _=>.inl e
theorem GLm.push{m n0:Nat}{t:TypeId}{sz:Nat}{h h':List ABlk}{N:AV}{n:Nat}{ys es ecs:List AV}{j' ver':Nat}{xs:List AV}(a:GLm m n0 t sz h N n ys)
  (hx:∀ j ver,N=.own j ver n→j'=j∧h[j]?=some ⟨ver,t,xs⟩) (hx0:N=.v (.slice none 0 0)→h.length≤j'∧xs=[]) (hn0:n0≤m) (hm:m≤h.length)
  (f:Fr (fun k=>k<n0∨nbk N k) h h') (hj:h'[j']?=some ⟨ver',t,xs++es⟩) (hl:es.length=sz) (he:RdL (kT t) (fun k=>k<m) h ecs es):GL n0 t sz h' (.own j' ver' (n+1)) (n+1) (ys++ecs):=by
 have hj'l:=(Bs.1 hj).1;have hf1:=f.1
 rcases a with⟨rfl,rfl,rfl⟩|⟨j,ver,xs1,rfl,hn,hj0,hj1,hl1,hjm,hr⟩
 ·obtain⟨h1,rfl⟩:=hx0 rfl;refine .inr ⟨j',ver',_,rfl,Nat.succ_pos _,by omega,hj,by simp[hl],hj'l,?_⟩;rw[show (0+1:Nat)=1 from rfl,rows_one];exact he.up f (fun k e _=>e.elim (fun e=>by omega) fun e=>e.elim) fun k e hk=>by omega
 ·obtain⟨rfl,h2⟩:=hx j ver rfl;rw[hj1]at h2;cases h2;refine .inr ⟨j',ver',_,rfl,Nat.succ_pos _,hj0,hj,by rw[Bp,hl1,hl,Nat.succ_mul],hj'l,?_⟩;have f':Fr (fun k=>k<n0∨k=j') h h':=f;rw[rows_succ];refine RdL.app2 (S1:=fun k=>k<n0∨k=j'∨(m≤k∧k<h.length)) (S2:=fun k=>k<m∨h.length≤k) ?_ ?_ (fun k hk=>?_) (fun k e hk=>?_) (fun k e hk=>?_)
  ·exact hr.up f' (fun k e _=>e.imp id .inl) (fun k e _=>e.imp id fun e=>e.imp id fun e=>e.1)
  ·exact he.up f' (fun k e _=>by rcases e with e|e<;>omega) (fun k e hk=>by omega)
  ·by_cases h1:k<m
   ·exact .inr (.inl h1)
   ·by_cases h2:k<h.length
    ·exact .inl (.inr (.inr ⟨by omega,h2⟩))
    ·exact .inr (.inr (by omega))
  ·rcases e with e|e|e
   ·exact .inl e
   ·exact .inr (.inl e)
   ·omega
  ·rcases e with e|e|e<;>omega
theorem rd_one{k:Ki}{S:Nat→Prop}{h:List ABlk}{n:Nat}{cs:List AV}{A:AV}(a:Rd k S h (slA n cs) A):oneA A=true∧flat A=some [A]:=by
 have:=a.fz;cases n with
 |zero=>simp only[slA,Go.Ev.fz]at this;subst this;exact⟨rfl,rfl⟩
 |succ n=>
  simp only[slA,Go.Ev.fz]at this
  rcases this with rfl|⟨_,i,k,xs,rfl,_⟩<;>exact⟨rfl,rfl⟩
end Go.Proofs.YtlobiioioicmhaaGreatDoor.O
namespace Go.Proofs.YtlobiioioicmhaaGreatDoor
open _root_.Bool renaming not_true→Bv,not_false→Bf
open _root_.List renaming getElem?_eq_some_iff→Bs,getElem?_set_self→Be,length_set→Bl,length_append→Bp,append_assoc→Bo,cons_append→Bc,getElem?_eq_none→Bq,length_drop→Bd,length_take→Bh,prefix_rfl→BB,length_cons→BC,mem_cons→BI,append_nil→BS,set_append_right→BV
open _root_.Nat renaming le_refl→BL,le_trans→BM,zero_le→BN
open Go.Proofs.Tryz renaming prog→Tp
open Go Go.Ev
set_option maxRecDepth 20000
variable {γ:List (Nat×AV)} {ts:List Tk} {L:AV}
theorem tyD:aggT Tp 127=some false∧
  aggT Tp 128=some false∧
  aggT Tp 130=some true∧
  aggT Tp 133=some false∧
  aggT Tp 135=some true∧
  aggT Tp 137=some true∧
  aggT Tp 26=some false∧
  aggT Tp 3=some false∧
  aggT Tp 41=some true∧
  aggT Tp 48=some false∧
  aggT Tp 53=some true∧
  aggT Tp 56=some false∧
  aggT Tp 59=some true∧
  aggT Tp 68=some false∧
  aggT Tp 69=some false∧
  aggT Tp 71=some true∧
  aggT Tp 78=some false∧
  aggT Tp 88=some false∧
  aggT Tp 9=some false∧
  aggT Tp 90=some true∧
  appT Tp 128 128=some (9,1,16)∧
  appT Tp 133 133=some (41,1,24)∧
  appT Tp 56 56=some (130,2,40)∧
  appT Tp 57 57=some (135,5,88)∧
  appT Tp 68 68=some (137,2,40)∧
  appT Tp 69 69=some (90,2,40)∧
  appT Tp 78 78=some (3,1,8)∧
  appT Tp 88 88=some (59,4,88)∧
  elemT Tp 37=some 5∧
  elemT Tp 48=some 53∧
  fieldT Tp 130 1=some (1,128)∧
  fieldT Tp 135 2=some (2,9)∧
  fieldT Tp 135 3=some (3,9)∧
  fieldT Tp 135 4=some (4,133)∧
  fieldT Tp 137 1=some (1,78)∧
  fieldT Tp 199 0=some (0,48)∧
  fieldT Tp 199 1=some (1,3)∧
  fieldT Tp 199 2=some (2,3)∧
  fieldT Tp 201 0=some (0,3)∧
  fieldT Tp 201 1=some (1,26)∧
  fieldT Tp 53 0=some (0,3)∧
  fieldT Tp 53 1=some (1,9)∧
  fieldT Tp 53 4=some (4,3)∧
  fieldT Tp 59 1=some (1,56)∧
  fieldT Tp 59 2=some (2,41)∧
  fieldT Tp 59 3=some (3,57)∧
  fieldT Tp 71 0=some (0,68)∧
  fieldT Tp 71 1=some (1,69)∧
  fieldT Tp 90 1=some (1,88)∧
  ifcT Tp 20=some true∧
  ifcT Tp 201=some false∧
  mkT Tp 128=some (9,1,[.v (.string ⟨#[]⟩)])∧
  mkT Tp 133=some (41,1,[.v (.slice none 0 0)])∧
  mkT Tp 56=some (130,2,[.v (.string ⟨#[]⟩),.v (.slice none 0 0)])∧
  mkT Tp 57=some (135,5,[.v (.int .i64 0),.v (.slice none 0 0),.v (.string ⟨#[]⟩),.v (.string ⟨#[]⟩),.v (.slice none 0 0)])∧
  mkT Tp 68=some (137,2,[.v (.string ⟨#[]⟩),.v (.slice none 0 0)])∧
  mkT Tp 69=some (90,2,[.v (.string ⟨#[]⟩),.v (.slice none 0 0)])∧
  mkT Tp 78=some (3,1,[.v (.int .i64 0)])∧
  mkT Tp 88=some (59,4,[.v (.string ⟨#[]⟩),.v (.slice none 0 0),.v (.slice none 0 0),.v (.slice none 0 0)])∧
  placesT Tp 130=some [(0,1),(1,1)]∧
  placesT Tp 135=some [(0,1),(1,1),(2,1),(3,1),(4,1)]∧
  placesT Tp 137=some [(0,1),(1,1)]∧
  placesT Tp 199=some [(0,1),(1,1),(2,1)]∧
  placesT Tp 201=some [(0,1),(1,1)]∧
  placesT Tp 59=some [(0,1),(1,1),(2,1),(3,1)]∧
  placesT Tp 90=some [(0,1),(1,1)]∧
  sizeT Tp 128=some 1∧
  sizeT Tp 130=some 2∧
  sizeT Tp 133=some 1∧
  sizeT Tp 135=some 5∧
  sizeT Tp 137=some 2∧
  sizeT Tp 201=some 2∧
  sizeT Tp 26=some 1∧
  sizeT Tp 3=some 1∧
  sizeT Tp 41=some 1∧
  sizeT Tp 48=some 1∧
  sizeT Tp 5=some 1∧
  sizeT Tp 53=some 6∧
  sizeT Tp 56=some 1∧
  sizeT Tp 57=some 1∧
  sizeT Tp 59=some 4∧
  sizeT Tp 68=some 1∧
  sizeT Tp 69=some 1∧
  sizeT Tp 71=some 2∧
  sizeT Tp 78=some 1∧
  sizeT Tp 88=some 1∧
  sizeT Tp 9=some 1∧
  sizeT Tp 90=some 2∧
  zcT Tp 130=some [.v (.string ⟨#[]⟩),.v (.slice none 0 0)]∧
  zcT Tp 133=some [.v (.slice none 0 0)]∧
  zcT Tp 135=some [.v (.int .i64 0),.v (.slice none 0 0),.v (.string ⟨#[]⟩),.v (.string ⟨#[]⟩),.v (.slice none 0 0)]∧
  zcT Tp 137=some [.v (.string ⟨#[]⟩),.v (.slice none 0 0)]∧
  zcT Tp 199=some [.v (.slice none 0 0),.v (.int .i64 0),.v (.int .i64 0)]∧
  zcT Tp 201=some [.v (.int .i64 0),.v (.int .i64 0)]∧
  zcT Tp 26=some [.v (.int .i64 0)]∧
  zcT Tp 3=some [.v (.int .i64 0)]∧
  zcT Tp 41=some [.v (.slice none 0 0)]∧
  zcT Tp 53=some [.v (.int .i64 0),.v (.string ⟨#[]⟩),.v (.int .i64 0),.v (.float .f64 0),.v (.int .i64 0),.v (.int .i64 0)]∧
  zcT Tp 59=some [.v (.string ⟨#[]⟩),.v (.slice none 0 0),.v (.slice none 0 0),.v (.slice none 0 0)]∧
  zcT Tp 71=some [.v (.slice none 0 0),.v (.slice none 0 0)]∧
  zcT Tp 90=some [.v (.string ⟨#[]⟩),.v (.slice none 0 0)]:=
 (by and_intros<;>kernel_rfl)
structure EnvD(γ:List (Nat×AV))(L:AV)(ts:List Tk):Prop where
 gl:Gl γ
 glw:GlW γ
 l:LAs L ts
 ok:∀ t∈ts,okTk t
 n:ts.length≤2000000
theorem EnvD.len(E:EnvD γ L ts)(s:List ABlk):lenS Tp 48 s L=some (.v (.int .i64 ts.length)):=by
 have e24:elemT Tp 48=some 53:=by kernel_rfl
 rcases E.l with⟨rfl,rfl⟩|⟨b,m,cs,rfl,_⟩
 ·simp only[lenS,e24];rfl
 ·simp only[lenS,e24];rfl
theorem EnvD.sl(E:EnvD γ L ts){p:Nat}(hp:p<ts.length):∃ b m cs,L=.sl b ts.length m cs∧tkCells ts<+:cs:=by
 rcases E.l with⟨rfl,rfl⟩|⟨b,m,cs,h,h1,_⟩
 ·exact absurd hp (by simp)
 ·exact⟨b,m,cs,h,h1⟩
def RD(h:List ABlk)(i:Nat)(L:AV)(p:Nat)(n:Nat):Prop:=h[i]?=some ⟨0,199,[L,.v (.int .i64 (p:Int)),.v (.int .i64 (n:Int))]⟩
theorem RD.lt{h:List ABlk}{i:Nat}{L:AV}{p n:Nat}(a:RD h i L p n):i<h.length:=(Bs.1 a).1
theorem RD.fr{S:Nat→Prop}{h h1:List ABlk}{i:Nat}{L:AV}{p n:Nat}(a:RD h i L p n)(f:Fr S h h1)(hS:¬S i):RD h1 i L p n:=f.at a hS
theorem RD.app{h:List ABlk}{i:Nat}{L:AV}{p n:Nat}(a:RD h i L p n)(l:List ABlk):RD (h++l) i L p n:=a.fr (Fr.app (S:=NoB) h l) fun h=>h
def stopA(pl e:Int):AV:=.ifc 201 (.agg [intC pl,intC e])
def plO(ts:List Tk)(n q:Nat):Int:=match ts[q]? with
 |some t=>t.pos
 |none=>n
theorem c202:bodyT Tp 202:=⟨_,Tryz.func202,by kernel_rfl,by kernel_rfl⟩
theorem c131:bodyT Tp 131:=⟨_,Tryz.func131,by kernel_rfl,by kernel_rfl⟩
theorem c128:bodyT Tp 128:=⟨_,Tryz.func128,by kernel_rfl,by kernel_rfl⟩
theorem c127:bodyT Tp 127:=⟨_,Tryz.func127,by kernel_rfl,by kernel_rfl⟩
theorem c199:bodyT Tp 199:=⟨_,Tryz.func199,by kernel_rfl,by kernel_rfl⟩
theorem c129:bodyT Tp 129:=⟨_,Tryz.func129,by kernel_rfl,by kernel_rfl⟩
theorem dis_ev(E:EnvD γ L ts){h:List ABlk}{i p n:Nat}(hp:p≤ts.length)(hr:RD h i L p n)(s:List UInt8):
  EvM Tp γ 202 [.ptr i 0 0,.v (.string ⟨s.toArray⟩)] h fun o h'=>o=.ret (.v (.bool (isB ts p s)))∧Fr NoB h h':=by
 have hi:h[i]?=_:=hr;have g1:∀ l,(h++l)[i]?=_:=fun l=>hr.app l
 have s1:∀ x,(h++[x])[h.length]?=some x:=fun x=>by simp
 have s2:∀ x y,(h++[x]).set h.length y=h++[y]:=fun x y=>by simp
 have ll:=E.len;refine EvM.of Tryz.func202 rfl ?_
 by_cases hlt:p<ts.length
 ·obtain⟨b,m,cs,rfl,hcs⟩:=E.sl hlt;obtain⟨t,ht⟩:∃ t,ts[p]?=some t:=⟨ts[p],by simp[hlt]⟩;have h6:=LAt.take hcs ht;have h6l:6≤(cs.drop (p * 6)).length:=by have:=LAt.len hcs hlt;rw[Bd];omega
  have d1:((p:Int)==(ts.length:Int))=false:=by simp only[beq_eq_false_iff_ne,ne_eq];omega
  have hB:isB ts p s=decide ((t.kind=5∨t.kind=1)∧t.text=s):=by unfold isB;rw[ht]
  rw[hB];simp only[Tryz.f202,evE,Nat.reduceAdd,Nat.reduceSub,Nat.reduceLT];refine dI ?_;simp only[tyD,hi,ll,d1,evE,tyX,Nat.reduceLT,Nat.reduceEqDiff,reduceCtorEq];refine dX ?_;simp only[tyD,hi,h6,h6l,s1,s2,Tk.cells,evE,tyX,Nat.reduceAdd,Nat.reduceLT,Nat.reduceLeDiff,Nat.reduceEqDiff,reduceCtorEq];refine⟨hlt,?_⟩
  (repeat' (first|(with_reducible refine aI ?_ ?_)|(first|(first|refine gF ?_ ?_|refine gT ?_ ?_|refine cI ?_ ?_|refine pI ?_ ?_)<;>intro h|(refine dI ?_;have h:=trivial))<;>simp only[h,s1,evE,tyX,Nat.reduceLT,Nat.reduceEqDiff,reduceCtorEq,tyD,g1,hi,ll,d1,h6,h6l,s2,Tk.cells,Bv,Bf,Nat.reduceAdd,Nat.reduceSub,Nat.reduceMul,Nat.reduceLeDiff,List.reduceReplicate,Int.reduceToNat,Int.reduceLE,Int.reduceLT]))
  all_goals first|exact Fr.app _ _|(refine congrArg Out.ret (congrArg AV.v (congrArg Value.bool ?_));rw[Bool.eq_iff_iff];simp_all;done)
 ·have hp2:p=ts.length:=by omega
  have d1:((p:Int)==(ts.length:Int))=true:=by rw[hp2];simp
  have hB:isB ts p s=false:=by unfold isB;rw[Bq (by omega)]
  rw[hB];simp only[Tryz.f202,evE,Nat.reduceAdd,Nat.reduceSub,Nat.reduceLT];refine dI ?_;simp only[tyD,hi,ll,d1,evE,tyX,Nat.reduceLT,Nat.reduceEqDiff,reduceCtorEq];exact Fr.refl _ _
def ResD{α:Type}(ts:List Tk)(n:Nat)(L:AV)(i:Nat)(h:List ABlk)(A:α→AV→List ABlk→Prop)(r:DR α)(o:Out)(h':List ABlk):Prop:=
 Fr (IsI i) h h'∧match r with
 |.ok x q=>∃ a,o=.ret a∧RD h' i L q n∧A x a h'
 |.bad q e=>o=.pan (stopA (plO ts n q) e)
theorem callD{α:Type}{E:AV→St→Prop}{g:FuncId}{xs:List AV}{d:Option Tmp}{K:St→Prop}{s:St}{n i:Nat}{A:α→AV→List ABlk→Prop}{r:DR α}(c:bodyT Tp g)
  (he:EvM Tp s.s.g g xs s.h (ResD ts n L i s.h A r)) (hok:∀ x q a h1,r=.ok x q→Fr (IsI i) s.h h1→RD h1 i L q n→A x a h1→K (pt ⟨s.s,h1⟩ d a))
  (hbad:∀ q e h1,r=.bad q e→Fr (IsI i) s.h h1→E (stopA (plO ts n q) e) ⟨s.s,h1⟩):CallE Tp E g xs d K s:=by
 refine CallE.intro c _ he (fun a h1 hh=>?_) (fun v h1 hh=>?_)
 ·cases r with
  |ok x q=>
   obtain⟨f,a',e,r1,hA⟩:=hh;cases e;exact hok x q _ h1 rfl f r1 hA
  |bad q e=>obtain⟨_,e⟩:=hh;cases e
 ·cases r with
  |ok x q=>obtain⟨_,a',e,_⟩:=hh;cases e
  |bad q e=>
   obtain⟨f,e⟩:=hh;cases e;exact hbad q _ h1 rfl f
theorem RD.set{h:List ABlk}{i:Nat}{L:AV}{p n:Nat}(a:RD h i L p n)(q:Nat):RD (h.set i ⟨0,199,[L,.v (.int .i64 (q:Int)),.v (.int .i64 (n:Int))]⟩) i L q n:=Be a.lt
def TakeD(ts:List Tk)(L:AV)(i p n:Nat)(s:List UInt8)(h:List ABlk)(o:Out)(h':List ABlk):Prop:=
 o=.ret (.v (.bool (isB ts p s)))∧Fr (IsI i) h h'∧RD h' i L (if isB ts p s=true then p+1 else p) n
theorem dtake_ev(E:EnvD γ L ts){h:List ABlk}{i p n:Nat}(hp:p≤ts.length)(hr:RD h i L p n)(s:List UInt8):
  EvM Tp γ 131 [.ptr i 0 0,.v (.string ⟨s.toArray⟩)] h (TakeD ts L i p n s h):=by
 refine EvM.of Tryz.func131 rfl ?_;simp only[Tryz.f131,evE,Nat.reduceAdd,Nat.reduceSub,Nat.reduceLT,Nat.reduceEqDiff,reduceCtorEq];refine CallE.intro c202 _ (dis_ev E hp hr s) (fun r h1 hh=>?_) (fun v h1 hh=>by cases hh.1);obtain⟨e,f1⟩:=hh;cases e;have r1:=hr.fr f1 (fun h=>h);have h1i:h1[i]?=_:=r1;have f1':Fr (IsI i) h h1:=f1.mono fun k e=>e.elim
 cases hB:isB ts p s with
 |true=>
  have hlt:=isB_lt hB;have hn:=E.n;have w1:IntKind.i64.wrap ((p:Int)+1)=((p+1:Nat):Int):=(i64w (by omega) (by omega)).trans (by omega);simp only[tyD,h1i,w1,evE,tyX,Bv,Nat.reduceAdd,Nat.reduceLT,Nat.reduceLeDiff,Nat.reduceEqDiff,reduceCtorEq];refine⟨by rw[hB],f1'.trans (Fr.set (S:=IsI i) _ rfl) fun k e=>.inl e,?_⟩;rw[hB];exact r1.set (p+1)
 |false=>
  simp only[evE,Bf,Nat.reduceLT,Nat.reduceEqDiff,reduceCtorEq];refine⟨by rw[hB],f1',?_⟩;rw[hB];exact r1
theorem dplace_ev(E:EnvD γ L ts){h:List ABlk}{i p n:Nat}(hr:RD h i L p n)(q:Nat):
  EvM Tp γ 199 [.ptr i 0 0,.v (.int .i64 (q:Int))] h fun o h'=>o=.ret (.v (.int .i64 (plO ts n q)))∧h'=h:=by
 have hi:h[i]?=_:=hr;have ll:=E.len;refine EvM.of Tryz.func199 rfl ?_
 by_cases hlt:q<ts.length
 ·obtain⟨b,m,cs,rfl,hcs⟩:=E.sl hlt;obtain⟨t,ht⟩:∃ t,ts[q]?=some t:=⟨ts[q],by simp[hlt]⟩;have h6l:=LAt.len hcs hlt;have h4:cs[q * 6+4]?=_:=LAt.cell (b:=b) hcs ht (k:=4) (by decide);have d1:decide (q<ts.length)=true:=decide_eq_true hlt;have hP:plO ts n q=t.pos:=by unfold plO;rw[ht]
  rw[hP];simp only[Tryz.f199,tyD,hi,ll,d1,h4,Tk.cells,evE,tyX,Nat.reduceAdd,Nat.reduceSub,Nat.reduceLT,Nat.reduceEqDiff,reduceCtorEq];exact hlt
 ·have d1:decide (q<ts.length)=false:=decide_eq_false hlt;have hP:plO ts n q=n:=by unfold plO;rw[Bq (by omega)]
  rw[hP];simp only[Tryz.f199,tyD,hi,ll,d1,evE,tyX,Nat.reduceAdd,Nat.reduceSub,Nat.reduceLT,Nat.reduceEqDiff,reduceCtorEq]
theorem dfail_ev(E:EnvD γ L ts){h:List ABlk}{i p n:Nat}(hr:RD h i L p n)(e:Int):
  EvM Tp γ 127 [.ptr i 0 0,.v (.int .i64 e)] h fun o h'=>o=.pan (stopA (plO ts n p) e)∧h'=h:=by
 have hi:h[i]?=_:=hr;refine EvM.of Tryz.func127 rfl ?_;simp only[Tryz.f127,tyD,hi,evE,tyX,Nat.reduceAdd,Nat.reduceSub,Nat.reduceLT,Nat.reduceEqDiff,reduceCtorEq];refine CallE.intro c199 _ (dplace_ev E hr p) (fun r h1 hh=>?_) (fun v h1 hh=>by cases hh.1);obtain⟨e,rfl⟩:=hh;cases e;simp only[tyD,evE,Nat.reduceAdd,Nat.reduceLT,Nat.reduceLeDiff,Nat.reduceEqDiff,reduceCtorEq]
 rfl
def UnitA(_:Unit)(a:AV)(_:List ABlk):Prop:=a=.tup []
theorem dwant_ev(E:EnvD γ L ts){h:List ABlk}{i p n:Nat}(hp:p≤ts.length)(hr:RD h i L p n)(s:List UInt8):
  EvM Tp γ 128 [.ptr i 0 0,.v (.string ⟨s.toArray⟩)] h (ResD ts n L i h UnitA (wantD ts s p)):=by
 refine EvM.of Tryz.func128 rfl ?_;simp only[Tryz.f128,evE,Nat.reduceAdd,Nat.reduceSub,Nat.reduceLT,Nat.reduceEqDiff,reduceCtorEq];refine CallE.intro c131 _ (dtake_ev E hp hr s) (fun r h1 hh=>?_) (fun v h1 hh=>by cases hh.1);obtain⟨e,f1,r1⟩:=hh;cases e;unfold wantD;cases hB:isB ts p s with
 |true=>
  rw[hB]at r1;simp only[evE,Bv,Nat.reduceLT,Nat.reduceEqDiff,reduceCtorEq];exact⟨f1,_,rfl,r1,rfl⟩
 |false=>
  rw[hB]at r1;simp only[evE,Bf,Nat.reduceLT,Nat.reduceEqDiff,reduceCtorEq];refine CallE.intro c127 _ (dfail_ev E r1 80) (fun r h2 hh=>by cases hh.1) (fun v h2 hh=>?_);obtain⟨e,rfl⟩:=hh;cases e;exact⟨f1,rfl⟩
theorem c35:bodyT Tp 35:=⟨_,Tryz.func35,by kernel_rfl,by kernel_rfl⟩
theorem kwB_eq(s:List UInt8):kwB s=(s==[116,97,103] || (s==[107,105,110,100] || (s==[99,104,111,114,100] || (s==[119,104,101,110] || (s==[115,101,110,100] || (s==[115,112,97,119,110] || (s==[97,115] || (s==[114,101,112,108,121] || s==[98,101,99,111,109,101])))))))):=by
 rw[Bool.eq_iff_iff];simp only[kwB,kws,kTag,kKind,kChord,kWhen,kSend,kSpawn,kAs,kReply,kBecome,decide_eq_true_eq,BI,List.not_mem_nil,or_false,Bool.or_eq_true,beq_iff_eq]
theorem keyword_ev(s:List UInt8):Ev Tp γ 35 [.v (.string ⟨s.toArray⟩)] (.v (.bool (kwB s))):=by
 refine Ev.of Tryz.func35 rfl ?_;rw[kwB_eq];simp only[Tryz.f35,evE,Nat.reduceAdd,Nat.reduceSub,Nat.reduceLT,Nat.reduceEqDiff,reduceCtorEq]
 (repeat' (first|(with_reducible refine aI ?_ ?_)|(first|(first|refine gF ?_ ?_|refine gT ?_ ?_|refine cI ?_ ?_|refine pI ?_ ?_)<;>intro h|(refine dI ?_;have h:=trivial))<;>simp only[h,evE,Nat.reduceLT,Nat.reduceEqDiff,reduceCtorEq,tyX,Bv,Bf,Nat.reduceAdd,Nat.reduceSub,Nat.reduceMul,Nat.reduceLeDiff,List.reduceReplicate,Int.reduceToNat,Int.reduceLE,Int.reduceLT]))
 all_goals (try (simp only[*,Bool.true_or,Bool.or_true,Bool.or_false,Bool.false_or];done))
 all_goals trace_state
def StrA(x:List UInt8)(a:AV)(_:List ABlk):Prop:=a=strC x
theorem dword_ev(E:EnvD γ L ts){h:List ABlk}{i p n:Nat}(hp:p≤ts.length)(hr:RD h i L p n):
  EvM Tp γ 129 [.ptr i 0 0] h (ResD ts n L i h StrA (wordD ts p)):=by
 have hi:h[i]?=_:=hr;have ll:=E.len;refine EvM.of Tryz.func129 rfl ?_
 by_cases hlt:p<ts.length
 ·obtain⟨b,m,cs,rfl,hcs⟩:=E.sl hlt;obtain⟨t,ht⟩:∃ t,ts[p]?=some t:=⟨ts[p],by simp[hlt]⟩;have h6l:=LAt.len hcs hlt;have h0:cs[p * 6]?=some (.v (.int .i64 t.kind)):=LAt.cell (b:=b) hcs ht (k:=0) (by decide);have h1:cs[p * 6+1]?=_:=LAt.cell (b:=b) hcs ht (k:=1) (by decide);have d1:((p:Int)==(ts.length:Int))=false:=by simp only[beq_eq_false_iff_ne,ne_eq];omega
  have hW:wordD ts p=if t.kind=1∧kwB t.text=false then .ok t.text (p+1)else .bad p 80:=by unfold wordD;rw[ht]
  rw[hW]
  by_cases hk:t.kind=1
  ·have dk:(t.kind != 1)=false:=by simp[hk]
   have dk2:(t.kind==1)=true:=by simp[hk]
   simp only[Tryz.f129,evE,Nat.reduceAdd,Nat.reduceSub,Nat.reduceLT];refine dI ?_;simp only[tyD,hi,ll,d1,h0,h1,dk,Tk.cells,evE,tyX,Nat.reduceLT,Nat.reduceEqDiff,reduceCtorEq];refine⟨hlt,hlt,CallK.intro c35 rfl (keyword_ev _) ?_⟩;cases hB:kwB t.text with
   |true=>
    rw[if_neg (fun h=>by cases h.2)];simp only[evE,Nat.reduceLT,Nat.reduceEqDiff,reduceCtorEq];refine CallE.intro c127 _ (dfail_ev E hr 80) (fun r h2 hh=>by cases hh.1) (fun v h2 hh=>?_);obtain⟨e,rfl⟩:=hh;cases e;exact⟨Fr.refl _ _,rfl⟩
   |false=>
    rw[if_pos ⟨hk,rfl⟩];have hn:=E.n;have w1:IntKind.i64.wrap ((p:Int)+1)=((p+1:Nat):Int):=(i64w (by omega) (by omega)).trans (by omega);have w2:IntKind.i64.wrap (((p+1:Nat):Int)-1)=(p:Int):=(i64w (by omega) (by omega)).trans (by omega);have s3:∀ b,(h.set i b)[i]?=some b:=fun b=>Be hr.lt
    simp only[tyD,hi,w1,evE,tyX,Nat.reduceAdd,Nat.reduceLT,Nat.reduceLeDiff,Nat.reduceEqDiff,reduceCtorEq];refine dI ?_;simp only[tyD,s3,w2,h1,Tk.cells,evE,tyX,Nat.reduceLT,Nat.reduceEqDiff,reduceCtorEq];exact⟨hlt,Fr.set _ rfl,_,rfl,hr.set (p+1),rfl⟩
  ·have dk:(t.kind != 1)=true:=by simp[hk]
   have dk2:(t.kind==1)=false:=by simp[hk]
   rw[if_neg (fun h=>hk h.1)];simp only[Tryz.f129,evE,Nat.reduceAdd,Nat.reduceSub,Nat.reduceLT];refine dI ?_;simp only[tyD,hi,ll,d1,h0,dk,evE,tyX,Nat.reduceLT,Nat.reduceEqDiff,reduceCtorEq];refine⟨hlt,CallE.intro c127 _ (dfail_ev E hr 80) (fun r h2 hh=>by cases hh.1) (fun v h2 hh=>?_)⟩;obtain⟨e,rfl⟩:=hh;cases e;exact⟨Fr.refl _ _,rfl⟩
 ·have d1:((p:Int)==(ts.length:Int))=true:=by simp only[beq_iff_eq];omega
  have hW:wordD ts p=.bad p 80:=by unfold wordD;rw[Bq (by omega)]
  rw[hW];simp only[Tryz.f129,evE,Nat.reduceAdd,Nat.reduceSub,Nat.reduceLT];refine dI ?_;simp only[tyD,hi,ll,d1,evE,tyX,Nat.reduceLT,Nat.reduceEqDiff,reduceCtorEq];refine CallE.intro c127 _ (dfail_ev E hr 80) (fun r h2 hh=>by cases hh.1) (fun v h2 hh=>?_);obtain⟨e,rfl⟩:=hh;cases e;exact⟨Fr.refl _ _,rfl⟩
theorem set_len(h:List ABlk)(x:ABlk)(l:List ABlk)(c:ABlk):(h++x::l).set h.length c=h++c::l:=by simp
theorem set_len1(h:List ABlk)(x y:ABlk)(l:List ABlk)(c:ABlk):(h++x::y::l).set (h.length+1) c=h++x::c::l:=by
 rw[BV _ _ (by omega),show h.length+1-h.length=1 by omega];rfl
theorem at_lenS(h:List ABlk)(i:Nat)(b x:ABlk)(l:List ABlk):(h.set i b++x::l)[h.length]?=some x:=by
 have:=at_len (h.set i b) x l
 rwa [Bl]at this
theorem at_lenS1(h:List ABlk)(i:Nat)(b x y:ABlk)(l:List ABlk):(h.set i b++x::y::l)[h.length+1]?=some y:=by
 have:=at_len1 (h.set i b) x y l
 rwa [Bl]at this
theorem c132:bodyT Tp 132:=⟨_,Tryz.func132,by kernel_rfl,by kernel_rfl⟩
end Go.Proofs.YtlobiioioicmhaaGreatDoor
