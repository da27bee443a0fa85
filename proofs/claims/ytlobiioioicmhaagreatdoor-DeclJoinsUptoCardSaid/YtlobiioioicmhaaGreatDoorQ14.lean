/- Contracts of the functions that the law reaches. -/
import Derived.Test.YtlobiioioicmhaaGreatDoorQ13
set_option linter.all false
namespace Go.Proofs.YtlobiioioicmhaaGreatDoor
open Go Go.Ev
theorem isB_np(ts:List Tk)(p:Nat)(s:List UInt8):isB (ts.map np) p s=isB ts p s:=by
 unfold isB
 rw[List.getElem?_map]
 cases ts[p]?<;>rfl
theorem wantD_np(ts:List Tk)(s:List UInt8)(p:Nat):wantD (ts.map np) s p=wantD ts s p:=by unfold wantD;rw[isB_np]
theorem wordD_np(ts:List Tk)(p:Nat):wordD (ts.map np) p=wordD ts p:=by
 unfold wordD
 rw[List.getElem?_map]
 cases ts[p]?<;>rfl
theorem exprD_np(ts:List Tk)(p:Nat):exprD (ts.map np) p=exprD ts p:=by unfold exprD;simp only[readR_np]
theorem kindD_np(ts:List Tk)(p:Nat):kindD (ts.map np) p=kindD ts p:=by
 unfold kindD
 rw[List.getElem?_map]
 cases ts[p]?<;>rfl
theorem varD_np(ts:List Tk)(p:Nat):varD (ts.map np) p=varD ts p:=by unfold varD;rw[isB_np,wordD_np]
theorem moreD_np{α:Type}(ts:List Tk){I I':Nat→DR α}(hI:∀ p,I' p=I p):∀ (f:Nat) (l:List α) (p:Nat),moreD (ts.map np) I' f l p=moreD ts I f l p
 |0,l,p=>rfl
 |f+1,l,p=>by rw[moreD,moreD];simp only[isB_np,hI,moreD_np ts hI f]
theorem listD_np{α:Type}(ts:List Tk){I I':Nat→DR α}(hI:∀ p,I' p=I p)(p:Nat):listD (ts.map np) I' p=listD ts I p:=by
 unfold listD
 simp only[isB_np,wantD_np,hI,moreD_np ts hI,List.length_map]
theorem argsD_np(ts:List Tk)(p:Nat):argsD (ts.map np) p=argsD ts p:=listD_np ts (exprD_np ts) p
theorem tagD_np(ts:List Tk)(p:Nat):tagD (ts.map np) p=tagD ts p:=by
 unfold tagD
 simp only[wordD_np,wantD_np,listD_np ts (kindD_np ts)]
theorem partD_np(ts:List Tk)(p:Nat):partD (ts.map np) p=partD ts p:=by
 unfold partD
 simp only[wordD_np,wantD_np,listD_np ts (varD_np ts)]
theorem actD_np(ts:List Tk)(p:Nat):actD (ts.map np) p=actD ts p:=by
 unfold actD
 simp only[isB_np,exprD_np,wordD_np,argsD_np,wantD_np]
theorem actsD_np(ts:List Tk):∀ (f:Nat) (l:List Ac) (p:Nat),actsD (ts.map np) f l p=actsD ts f l p
 |0,l,p=>rfl
 |f+1,l,p=>by rw[actsD,actsD];simp only[isB_np,actD_np,wantD_np,actsD_np ts f]
theorem bodyD_np(ts:List Tk)(p:Nat):bodyD (ts.map np) p=bodyD ts p:=by
 unfold bodyD
 simp only[wantD_np,actsD_np,List.length_map]
theorem partsD_np(ts:List Tk):∀ (f:Nat) (l:List Pt) (p:Nat),partsD (ts.map np) f l p=partsD ts f l p
 |0,l,p=>rfl
 |f+1,l,p=>by rw[partsD,partsD];simp only[isB_np,partD_np,partsD_np ts f]
theorem guardD_np(ts:List Tk)(p:Nat):guardD (ts.map np) p=guardD ts p:=by unfold guardD;simp only[isB_np,exprD_np]
theorem chordD_np(ts:List Tk)(p:Nat):chordD (ts.map np) p=chordD ts p:=by
 unfold chordD
 simp only[wantD_np,wordD_np,partD_np,partsD_np,guardD_np,bodyD_np,List.length_map]
theorem chordsD_np(ts:List Tk):∀ (f:Nat) (l:List Ch) (p:Nat),chordsD (ts.map np) f l p=chordsD ts f l p
 |0,l,p=>rfl
 |f+1,l,p=>by rw[chordsD,chordsD];simp only[isB_np,chordD_np,chordsD_np ts f]
theorem kindD2_np(ts:List Tk)(p:Nat):kindD2 (ts.map np) p=kindD2 ts p:=by
 unfold kindD2
 simp only[wantD_np,wordD_np,chordsD_np,List.length_map]
theorem progD_np(ts:List Tk):∀ (f:Nat) (g:Pg) (p:Nat),progD (ts.map np) f g p=progD ts f g p
 |0,g,p=>rfl
 |f+1,g,p=>by rw[progD,progD];simp only[isB_np,tagD_np,kindD2_np,progD_np ts f,List.length_map]
def DR.sh{α:Type}(k:Nat):DR α→DR α
 |.ok x q=>.ok x (k+q)
 |.bad q e=>.bad (k+q) e
theorem DR.sh_bind{α β:Type}{k:Nat}{r r':DR α}{f f':α→Nat→DR β}(h:r'=r.sh k)(hf:∀ x q,r=.ok x q→f' x (k+q)=(f x q).sh k):r'.bind f'=(r.bind f).sh k:=by
 subst h
 cases r with
 |ok x q=>exact hf x q rfl
 |bad q e=>rfl
variable {A B:List Tk}
theorem isB_sh(p:Nat)(s:List UInt8):isB (A++B) (A.length+p) s=isB B p s:=by
 unfold isB
 rw[List.getElem?_append_right (by omega),show A.length+p-A.length=p by omega]
theorem get_sh(p:Nat):(A++B)[A.length+p]?=B[p]?:=by
 rw[List.getElem?_append_right (by omega),show A.length+p-A.length=p by omega]
theorem wantD_sh(s:List UInt8)(p:Nat):wantD (A++B) s (A.length+p)=(wantD B s p).sh A.length:=by
 unfold wantD
 rw[isB_sh]
 split<;>rfl
theorem wordD_sh(p:Nat):wordD (A++B) (A.length+p)=(wordD B p).sh A.length:=by
 unfold wordD
 rw[get_sh]
 cases B[p]? with
 |none=>rfl
 |some t=>simp only[];split<;>rfl
theorem kindD_sh(p:Nat):kindD (A++B) (A.length+p)=(kindD B p).sh A.length:=by
 unfold kindD
 rw[get_sh]
 cases B[p]? with
 |none=>rfl
 |some t=>simp only[];split<;>rfl
theorem varD_sh(p:Nat):varD (A++B) (A.length+p)=(varD B p).sh A.length:=by
 unfold varD
 rw[isB_sh,wordD_sh]
 split<;>rfl
theorem exprD_sh{p:Nat}(hp:p≤B.length):exprD (A++B) (A.length+p)=(exprD B p).sh A.length:=by
 obtain⟨a1,a2,a3⟩:=readR_adv hp
 unfold exprD
 rw[readR_sh A B hp]
 simp only[]
 have e:((A.length:Int)+(readR B p).2.1).toNat=A.length+(readR B p).2.1.toNat:=by omega
 split<;>(simp only[DR.sh];rw[e])
theorem moreD_sh{α:Type}{I I':Nat→DR α}(hI:∀ p,p≤B.length→I' (A.length+p)=(I p).sh A.length)(hA:∀ p,p≤B.length→(I p).adv B p 1):∀ (f f':Nat) (l:List α) (p:Nat),p≤B.length→B.length<f+p→B.length<f'+p→moreD (A++B) I' f' l (A.length+p)=(moreD B I f l p).sh A.length
 |0,f',l,p,h1,h2,h3=>by omega
 |f+1,0,l,p,h1,h2,h3=>by omega
 |f+1,f'+1,l,p,h1,h2,h3=>by
  rw[moreD,moreD]
  simp only[isB_sh]
  split
  ·rfl
  split
  ·rename_i hB
   have hlt:=isB_lt hB
   have ad:=hA (p+1) hlt
   refine DR.sh_bind (hI (p+1) hlt) fun x q e=>?_
   rw[e]at ad
   exact moreD_sh hI hA f f' _ q ad.2 (by have:=ad.1;omega) (by have:=ad.1;omega)
  ·rfl
theorem listD_sh{α:Type}{I I':Nat→DR α}(hI:∀ p,p≤B.length→I' (A.length+p)=(I p).sh A.length)(hA:∀ p,p≤B.length→(I p).adv B p 1){p:Nat}(hp:p≤B.length):listD (A++B) I' (A.length+p)=(listD B I p).sh A.length:=by
 unfold listD
 have ad:=want_adv hp [40]
 refine DR.sh_bind (wantD_sh _ _) fun _ p1 e=>?_
 rw[e]at ad
 rw[isB_sh]
 split
 ·rfl
 ·have ad2:=hA p1 ad.2
  refine DR.sh_bind (hI p1 ad.2) fun x q e2=>?_
  rw[e2]at ad2
  exact moreD_sh hI hA _ _ _ q ad2.2 (by omega) (by rw[List.length_append];omega)
theorem argsD_sh{p:Nat}(hp:p≤B.length):argsD (A++B) (A.length+p)=(argsD B p).sh A.length:=listD_sh (fun _ h=>exprD_sh h) (fun _ h=>expr_adv h) hp
theorem tagD_sh{p:Nat}(hp:p≤B.length):tagD (A++B) (A.length+p)=(tagD B p).sh A.length:=by
 unfold tagD
 refine DR.sh_bind (wordD_sh p) fun n p1 e1=>?_
 have a1:=word_adv hp;rw[e1]at a1
 refine DR.sh_bind (listD_sh (fun p _=>kindD_sh p) (fun _ h=>kind_adv h) a1.2) fun l p2 e2=>?_
 exact DR.sh_bind (wantD_sh _ _) fun _ p3 _=>rfl
theorem partD_sh{p:Nat}(hp:p≤B.length):partD (A++B) (A.length+p)=(partD B p).sh A.length:=by
 unfold partD
 refine DR.sh_bind (wordD_sh p) fun n p1 e1=>?_
 have a1:=word_adv hp;rw[e1]at a1
 exact DR.sh_bind (listD_sh (fun p _=>varD_sh p) (fun _ h=>var_adv h) a1.2) fun l p2 e2=>rfl
theorem actD_sh{p:Nat}(hp:p≤B.length):actD (A++B) (A.length+p)=(actD B p).sh A.length:=by
 unfold actD
 simp only[isB_sh,Nat.add_assoc]
 split
 ·rename_i h
  have hl:=isB_lt h
  refine DR.sh_bind (exprD_sh hl) fun x p1 e1=>?_
  have a1:=expr_adv hl;rw[e1]at a1
  refine DR.sh_bind (wordD_sh p1) fun n p2 e2=>?_
  have a2:=word_adv a1.2;rw[e2]at a2
  exact DR.sh_bind (argsD_sh a2.2) fun l p3 e3=>rfl
 split
 ·refine DR.sh_bind (wordD_sh _) fun n p1 e1=>?_
  refine DR.sh_bind (wantD_sh _ _) fun _ p2 e2=>?_
  exact DR.sh_bind (wordD_sh _) fun v p3 e3=>rfl
 split
 ·rename_i h
  exact DR.sh_bind (argsD_sh (isB_lt h)) fun l p1 e1=>rfl
 split
 ·exact DR.sh_bind (wordD_sh _) fun n p1 e1=>rfl
 ·rfl
theorem actsD_sh:∀ (f f':Nat) (l:List Ac) (p:Nat),p≤B.length→B.length<f+p→B.length<f'+p→actsD (A++B) f' l (A.length+p)=(actsD B f l p).sh A.length
 |0,f',l,p,h1,h2,h3=>by omega
 |f+1,0,l,p,h1,h2,h3=>by omega
 |f+1,f'+1,l,p,h1,h2,h3=>by
  rw[actsD,actsD]
  simp only[isB_sh]
  split
  ·rfl
  ·refine DR.sh_bind (actD_sh h1) fun a p1 e1=>?_
   have a1:=act_adv h1;rw[e1]at a1
   refine DR.sh_bind (wantD_sh _ _) fun _ p2 e2=>?_
   have a2:=want_adv a1.2 [59];rw[e2]at a2
   have:=a1.1;have:=a2.1
   exact actsD_sh f f' _ p2 a2.2 (by omega) (by omega)
theorem bodyD_sh{p:Nat}(hp:p≤B.length):bodyD (A++B) (A.length+p)=(bodyD B p).sh A.length:=by
 unfold bodyD
 refine DR.sh_bind (wantD_sh _ _) fun _ p1 e1=>?_
 have a1:=want_adv hp [123];rw[e1]at a1
 exact actsD_sh _ _ _ p1 a1.2 (by omega) (by rw[List.length_append];omega)
theorem partsD_sh:∀ (f f':Nat) (l:List Pt) (p:Nat),p≤B.length→B.length<f+p→B.length<f'+p→partsD (A++B) f' l (A.length+p)=(partsD B f l p).sh A.length
 |0,f',l,p,h1,h2,h3=>by omega
 |f+1,0,l,p,h1,h2,h3=>by omega
 |f+1,f'+1,l,p,h1,h2,h3=>by
  rw[partsD,partsD]
  simp only[isB_sh,Nat.add_assoc]
  split
  ·rename_i h
   have hl:=isB_lt h
   refine DR.sh_bind (partD_sh hl) fun a p1 e1=>?_
   have a1:=part_adv hl;rw[e1]at a1
   have:=a1.1
   exact partsD_sh f f' _ p1 a1.2 (by omega) (by omega)
  ·rfl
theorem guardD_sh{p:Nat}(hp:p≤B.length):guardD (A++B) (A.length+p)=(guardD B p).sh A.length:=by
 unfold guardD
 simp only[isB_sh,Nat.add_assoc]
 split
 ·rename_i h;exact exprD_sh (isB_lt h)
 ·rfl
theorem chordD_sh{p:Nat}(hp:p≤B.length):chordD (A++B) (A.length+p)=(chordD B p).sh A.length:=by
 unfold chordD
 refine DR.sh_bind (wantD_sh _ _) fun _ p1 e1=>?_
 have a1:=want_adv hp kChord;rw[e1]at a1
 refine DR.sh_bind (wordD_sh _) fun n p2 e2=>?_
 have a2:=word_adv a1.2;rw[e2]at a2
 refine DR.sh_bind (wantD_sh _ _) fun _ p3 e3=>?_
 have a3:=want_adv a2.2 [58];rw[e3]at a3
 refine DR.sh_bind (partD_sh a3.2) fun x p4 e4=>?_
 have a4:=part_adv a3.2;rw[e4]at a4
 refine DR.sh_bind (partsD_sh _ _ _ p4 a4.2 (by omega) (by rw[List.length_append];omega)) fun l p5 e5=>?_
 have a5:=parts_adv (ts:=B) (B.length+1) [x] p4 a4.2;rw[e5]at a5
 refine DR.sh_bind (guardD_sh a5.2) fun g p6 e6=>?_
 have a6:=guard_adv a5.2;rw[e6]at a6
 exact DR.sh_bind (bodyD_sh a6.2) fun b p7 e7=>rfl
theorem chordsD_sh:∀ (f f':Nat) (l:List Ch) (p:Nat),p≤B.length→B.length<f+p→B.length<f'+p→chordsD (A++B) f' l (A.length+p)=(chordsD B f l p).sh A.length
 |0,f',l,p,h1,h2,h3=>by omega
 |f+1,0,l,p,h1,h2,h3=>by omega
 |f+1,f'+1,l,p,h1,h2,h3=>by
  rw[chordsD,chordsD]
  simp only[isB_sh]
  split
  ·rfl
  ·refine DR.sh_bind (chordD_sh h1) fun a p1 e1=>?_
   have a1:=chord_adv h1;rw[e1]at a1
   have:=a1.1
   exact chordsD_sh f f' _ p1 a1.2 (by omega) (by omega)
theorem kindD2_sh{p:Nat}(hp:p≤B.length):kindD2 (A++B) (A.length+p)=(kindD2 B p).sh A.length:=by
 unfold kindD2
 refine DR.sh_bind (wantD_sh _ _) fun _ p1 e1=>?_
 have a1:=want_adv hp kKind;rw[e1]at a1
 refine DR.sh_bind (wordD_sh _) fun n p2 e2=>?_
 have a2:=word_adv a1.2;rw[e2]at a2
 refine DR.sh_bind (wantD_sh _ _) fun _ p3 e3=>?_
 have a3:=want_adv a2.2 [123];rw[e3]at a3
 exact DR.sh_bind (chordsD_sh _ _ _ p3 a3.2 (by omega) (by rw[List.length_append];omega)) fun l p4 e4=>rfl
theorem progD_sh:∀ (f f':Nat) (g:Pg) (p:Nat),p≤B.length→B.length<f+p→B.length<f'+p→progD (A++B) f' g (A.length+p)=(progD B f g p).sh A.length
 |0,f',l,p,h1,h2,h3=>by omega
 |f+1,0,l,p,h1,h2,h3=>by omega
 |f+1,f'+1,g,p,h1,h2,h3=>by
  rw[progD,progD]
  have e:(A.length+p<(A++B).length)=(p<B.length):=by rw[List.length_append];exact propext (by omega)
  simp only[isB_sh,Nat.add_assoc,e]
  split
  ·split
   ·rename_i h
    have hl:=isB_lt h
    refine DR.sh_bind (tagD_sh hl) fun t p1 e1=>?_
    have a1:=tag_adv hl;rw[e1]at a1
    have:=a1.1
    exact progD_sh f f' _ p1 a1.2 (by omega) (by omega)
   ·refine DR.sh_bind (kindD2_sh h1) fun k p1 e1=>?_
    have a1:=kind2_adv h1;rw[e1]at a1
    have:=a1.1
    exact progD_sh f f' _ p1 a1.2 (by omega) (by omega)
  ·rfl
def DR.pre(g:Pg):DR Pg→DR Pg
 |.ok x q=>.ok ⟨g.tags++x.tags,g.kinds++x.kinds⟩ q
 |.bad q e=>.bad q e
theorem DR.pre_bind{α:Type}{g:Pg}{r:DR α}{f f':α→Nat→DR Pg}(hf:∀ x q,f' x q=(f x q).pre g):r.bind f'=(r.bind f).pre g:=by
 cases r with
 |ok x q=>exact hf x q
 |bad q e=>rfl
theorem progD_pre(ts:List Tk)(g:Pg):∀ (f:Nat) (g':Pg) (p:Nat),progD ts f ⟨g.tags++g'.tags,g.kinds++g'.kinds⟩ p=(progD ts f g' p).pre g
 |0,g',p=>rfl
 |f+1,g',p=>by
  rw[progD,progD]
  split
  ·split
   ·refine DR.pre_bind fun t q=>?_
    have:=progD_pre ts g f ⟨g'.tags++[t],g'.kinds⟩ q
    simpa only[List.append_assoc]using this
   ·refine DR.pre_bind fun t q=>?_
    have:=progD_pre ts g f ⟨g'.tags,g'.kinds++[t]⟩ q
    simpa only[List.append_assoc]using this
  ·rfl
def RelR(k:Nat)(r r':Res):Prop:=match r with
 |.ok t q=>(q<k→r'=.ok t q)∧∀ t' q',r'=.ok t' q'→t.size≤t'.size∧t.deep≤t'.deep
 |.bad q=>q<k→r'=.bad q
theorem RelR.rfl{k:Nat}{r:Res}:RelR k r r:=by
 cases r with
 |ok t q=>exact⟨fun _=>Eq.refl _,fun t' q' e=>by cases e;exact⟨Nat.le_refl _,Nat.le_refl _⟩⟩
 |bad q=>exact fun _=>Eq.refl _
theorem lp_grow(ts:List Tk):∀ (f n:Nat) (a:Tr) (p:Nat) (t:Tr) (q:Nat),pr ts f (.lp n a) p=.ok t q→a.size≤t.size∧a.deep≤t.deep
 |0,n,a,p,t,q,h=>by cases h
 |f+1,n,a,p,t,q,h=>by
  rw[pr]at h
  split at h
  ·cases h;exact⟨Nat.le_refl _,Nat.le_refl _⟩
  ·split at h
   ·cases h
   ·rename_i b q' e
    split at h
    ·cases h
     simp only[Tr.size,Tr.deep]
     exact⟨by omega,by omega⟩
    ·have:=lp_grow ts f n _ _ t q h
     simp only[Tr.size,Tr.deep]at this
     exact⟨by omega,by omega⟩
theorem mkA_app{p:Nat}(h:p<A.length):mkA (A++B) p=mkA A p:=by
 unfold mkA
 rw[List.getElem?_append_left h]
theorem mkA_end:mkA A A.length=[]:=by
 unfold mkA
 rw[List.getElem?_eq_none (Nat.le_refl _)]
theorem lp_end(n:Nat)(a:Tr):∀ f,pr A f (.lp n a) A.length=.ok a A.length∨pr A f (.lp n a) A.length=.bad A.length
 |0=>.inr rfl
 |f+1=>.inl (by rw[pr,mkA_end,if_pos (.inl rfl)])
theorem pr_loc(A B:List Tk):∀ (f:Nat) (m:Md) (p:Nat),p≤A.length→RelR A.length (pr A f m p) (pr (A++B) f m p):=by
 intro f
 induction f with
 |zero=>intro m p hp;cases m<;>exact fun _=>rfl
 |succ f ih=>
  intro m p hp
  have adv:=pr_adv A f
  rw[pr_step,pr_step]
  cases m with
  |bin n=>
   simp only[prS]
   split
   ·exact ih _ _ hp
   ·have h:=ih (.bin (n+1)) p hp
    cases e:pr A f (.bin (n+1)) p with
    |bad q=>
     rw[e]at h
     simp only[]
     intro hq
     rw[h hq]
    |ok a q=>
     rw[e]at h
     have hq:=(adv _ _ _ _ hp e).2
     simp only[]
     by_cases hk:q<A.length
     ·rw[h.1 hk]
      exact ih _ _ hq
     ·obtain rfl:q=A.length:=by omega
      rcases lp_end (A:=A) n a f with e2|e2
      ·rw[e2]
       refine⟨fun h=>absurd h (Nat.lt_irrefl _),fun t' q' e'=>?_⟩
       cases e3:pr (A++B) f (.bin (n+1)) p with
       |bad r=>rw[e3]at e';cases e'
       |ok a' r=>
        rw[e3]at e'
        have g:=h.2 a' _ e3
        have g2:=lp_grow _ _ _ _ _ _ _ e'
        exact⟨by omega,by omega⟩
      ·rw[e2];exact fun h=>absurd h (Nat.lt_irrefl _)
  |lp n a=>
   by_cases hpk:p<A.length
   ·simp only[prS,mkA_app hpk]
    split
    ·exact RelR.rfl
    ·have h:=ih (.bin (n+1)) (p+1) hpk
     cases e:pr A f (.bin (n+1)) (p+1)with
     |bad q=>
      rw[e]at h
      simp only[]
      intro hq
      rw[h hq]
     |ok b q=>
      rw[e]at h
      have hq:=(adv _ _ _ _ (show p+1≤A.length from hpk) e).2
      simp only[]
      by_cases hk:q<A.length
      ·rw[h.1 hk]
       simp only[]
       split
       ·exact RelR.rfl
       ·exact ih _ _ hq
      ·obtain rfl:q=A.length:=by omega
       split
       ·rename_i h3
        refine⟨fun h=>absurd h (Nat.lt_irrefl _),fun t' q' e'=>?_⟩
        cases e3:pr (A++B) f (.bin (n+1)) (p+1)with
        |bad r=>rw[e3]at e';cases e'
        |ok b' r=>
         rw[e3]at e'
         cases e'
         have g:=h.2 b' _ e3
         simp only[Tr.size,Tr.deep]
         exact⟨by omega,by omega⟩
       ·rcases lp_end (A:=A) n (.bi (opK (mkA A p)) a b) f with e2|e2
        ·rw[e2]
         refine⟨fun h=>absurd h (Nat.lt_irrefl _),fun t' q' e'=>?_⟩
         cases e3:pr (A++B) f (.bin (n+1)) (p+1)with
         |bad r=>rw[e3]at e';cases e'
         |ok b' r=>
          rw[e3]at e'
          have g:=h.2 b' _ e3
          have g2:=lp_grow _ _ _ _ _ _ _ e'
          simp only[Tr.size,Tr.deep]at g2⊢
          exact⟨by omega,by omega⟩
        ·rw[e2];exact fun h=>absurd h (Nat.lt_irrefl _)
   ·obtain rfl:p=A.length:=by omega
    have e:prS A (pr A f) (.lp n a) A.length=.ok a A.length:=by simp only[prS,mkA_end];rw[if_pos (.inl rfl)]
    rw[e]
    refine⟨fun h=>absurd h (Nat.lt_irrefl _),fun t' q' e'=>?_⟩
    rw[←pr_step]at e'
    exact lp_grow _ _ _ _ _ _ _ e'
  |un=>
   by_cases hpk:p<A.length
   ·simp only[prS,mkA_app hpk]
    split
    ·have h:=ih .un (p+1) hpk
     cases e:pr A f .un (p+1)with
     |bad q=>
      rw[e]at h
      simp only[]
      intro hq
      rw[h hq]
     |ok a q=>
      rw[e]at h
      simp only[]
      refine⟨fun hq=>by rw[h.1 hq],fun t' q' e'=>?_⟩
      cases e3:pr (A++B) f .un (p+1)with
      |bad r=>rw[e3]at e';cases e'
      |ok a' r=>
       rw[e3]at e'
       cases e'
       have g:=h.2 a' _ e3
       simp only[Tr.size,Tr.deep]
       exact⟨by omega,by omega⟩
    ·exact ih _ _ hp
   ·obtain rfl:p=A.length:=by omega
    have e:prS A (pr A f) .un A.length=.bad A.length:=by
     simp only[prS,mkA_end]
     rw[if_neg (by simp)]
     cases f with
     |zero=>rfl
     |succ f=>rw[pr_step];simp only[prS,mkA_end];rw[if_neg (by simp),List.getElem?_eq_none (Nat.le_refl _)]
    rw[e];exact fun h=>absurd h (Nat.lt_irrefl _)
  |fs=>
   by_cases hpk:p<A.length
   ·simp only[prS,mkA_app hpk]
    split
    ·have h:=ih (.bin 1) (p+1) hpk
     cases e:pr A f (.bin 1) (p+1)with
     |bad q=>
      rw[e]at h
      simp only[]
      intro hq
      rw[h hq]
     |ok a q=>
      rw[e]at h
      have hq:=(adv _ _ _ _ (show p+1≤A.length from hpk) e).2
      simp only[]
      by_cases hk:q<A.length
      ·rw[h.1 hk]
       simp only[mkA_app hk]
       exact RelR.rfl
      ·obtain rfl:q=A.length:=by omega
       rw[mkA_end,if_neg (by simp)]
       exact fun h=>absurd h (Nat.lt_irrefl _)
    ·rw[List.getElem?_append_left hpk]
     split
     ·exact RelR.rfl
     ·split
      ·exact RelR.rfl
      split
      ·exact RelR.rfl
      split
      ·exact RelR.rfl
      split
      ·exact RelR.rfl
      exact ih _ _ hpk
   ·obtain rfl:p=A.length:=by omega
    have e:prS A (pr A f) .fs A.length=.bad A.length:=by simp only[prS,mkA_end];rw[if_neg (by simp),List.getElem?_eq_none (Nat.le_refl _)]
    rw[e];exact fun h=>absurd h (Nat.lt_irrefl _)
  |nm s=>
   simp only[prS]
   split
   ·exact RelR.rfl
   split
   ·exact RelR.rfl
   split
   ·exact RelR.rfl
   by_cases hpk:p<A.length
   ·rw[mkA_app hpk]
    split
    ·exact RelR.rfl
    ·have h:=ih (.bin 1) (p+1) hpk
     cases e:pr A f (.bin 1) (p+1)with
     |bad q=>
      rw[e]at h
      simp only[]
      intro hq
      rw[h hq]
     |ok a q=>
      rw[e]at h
      have hq:=(adv _ _ _ _ (show p+1≤A.length from hpk) e).2
      simp only[]
      by_cases hk:q<A.length
      ·rw[h.1 hk]
       simp only[mkA_app hk]
       split
       ·split
        ·exact RelR.rfl
        ·have h2:=ih (.bin 1) (q+1) hk
         cases e2:pr A f (.bin 1) (q+1)with
         |bad r=>
          rw[e2]at h2
          simp only[]
          intro hr
          rw[h2 hr]
         |ok b r=>
          rw[e2]at h2
          have hr:=(adv _ _ _ _ (show q+1≤A.length from hk) e2).2
          simp only[]
          by_cases hkr:r<A.length
          ·rw[h2.1 hkr]
           simp only[mkA_app hkr]
           exact RelR.rfl
          ·obtain rfl:r=A.length:=by omega
           rw[mkA_end,if_neg (by simp)]
           exact fun h=>absurd h (Nat.lt_irrefl _)
       ·exact RelR.rfl
      ·obtain rfl:q=A.length:=by omega
       have:∀ {X:Res},(if kidsK (wordK s)=2 then (if mkA A A.length≠[44]then Res.bad A.length else X)else if mkA A A.length=[41]then .ok (.un (wordK s) a) (A.length+1)else .bad A.length)=.bad A.length:=by
        intro X
        rw[mkA_end]
        split
        ·rw[if_pos (by simp)]
        ·rw[if_neg (by simp)]
       rw[this]
       exact fun h=>absurd h (Nat.lt_irrefl _)
   ·obtain rfl:p=A.length:=by omega
    rw[if_pos (by rw[mkA_end];simp)]
    exact fun h=>absurd h (Nat.lt_irrefl _)
structure Lc{α:Type}(k:Nat)(c:Bool)(r r':DR α):Prop where
 ok:∀ x q,r=.ok x q→(c=true∨q<k)→r'=.ok x q
 bad:∀ q e,r=.bad q e→q<k→∃ q' e',r'=.bad q' e'
theorem Lc.rfl{α:Type}{k:Nat}{c:Bool}{r:DR α}:Lc k c r r:=⟨fun _ _ h _=>h,fun q e h _=>⟨q,e,h⟩⟩
theorem Lc.fin{α:Type}{k:Nat}{c:Bool}{r r':DR α}{e:Int}(h:r=.bad k e):Lc k c r r':=⟨fun _ _ h' _=>by (rw[h]at h';cases h'),fun q e' h' hq=>by (rw[h]at h';cases h';exact absurd hq (Nat.lt_irrefl _))⟩
theorem Lc.opn{α:Type}{k:Nat}{r r':DR α}(h:Lc k true r r'):Lc k false r r':=⟨fun x q e _=>h.ok x q e (.inl (Eq.refl _)),h.bad⟩
theorem Lc.bind{α β:Type}{k:Nat}{c1 c2:Bool}{r r':DR α}{f f':α→Nat→DR β}(h:Lc k c1 r r')(hq:∀ x q,r=.ok x q→q≤k)(hf:∀ x q,r=.ok x q→(c1=true∨q<k)→Lc k c2 (f x q) (f' x q))(hend:c1=false→∀ x,r=.ok x k→∃ e,f x k=.bad k e):Lc k c2 (r.bind f) (r'.bind f'):=by
 cases r with
 |ok x q=>
  by_cases hc:c1=true∨q<k
  ·rw[h.ok x q (Eq.refl _) hc]
   exact hf x q (Eq.refl _) hc
  ·have hk:=hq x q (Eq.refl _)
   obtain rfl:q=k:=by
    have:¬q<k:=fun e=>hc (.inr e)
    omega
   have c1f:c1=false:=by cases c1 with
    |false=>exact Eq.refl _
    |true=>exact absurd (.inl (Eq.refl _)) hc
   obtain⟨e,he⟩:=hend c1f x (Eq.refl _)
   exact Lc.fin (e:=e) he
 |bad q e=>
  refine⟨fun _ _ h'=>by (cases h'),fun q' e' h' hk=>?_⟩
  cases h'
  obtain⟨q2,e2,h2⟩:=h.bad q e (Eq.refl _) hk
  rw[h2]
  exact⟨q2,e2,Eq.refl _⟩
theorem Lc.then{α β:Type}{k:Nat}{c2:Bool}{ts:List Tk}{p j:Nat}{r r':DR α}{f f':α→Nat→DR β}(hts:ts.length=k)(h:Lc k true r r')(ha:r.adv ts p j)(hf:∀ x q,r=.ok x q→p+j≤q→q≤k→Lc k c2 (f x q) (f' x q)):Lc k c2 (r.bind f) (r'.bind f'):=
 h.bind (fun x q e=>by rw[e]at ha;rw[←hts];exact ha.2) (fun x q e _=>by rw[e]at ha;exact hf x q e ha.1 (by rw[←hts];exact ha.2)) (fun e=>by cases e)
theorem isB_app{p:Nat}{s:List UInt8}(h:p<A.length):isB (A++B) p s=isB A p s:=by unfold isB;rw[List.getElem?_append_left h]
theorem isB_end{s:List UInt8}:isB A A.length s=false:=by unfold isB;rw[List.getElem?_eq_none (Nat.le_refl _)]
theorem want_end(s:List UInt8):wantD A s A.length=.bad A.length 80:=by unfold wantD;rw[isB_end,if_neg (by decide)]
theorem word_end:wordD A A.length=.bad A.length 80:=by unfold wordD;rw[List.getElem?_eq_none (Nat.le_refl _)]
theorem kind_end:kindD A A.length=.bad A.length 80:=by unfold kindD;rw[List.getElem?_eq_none (Nat.le_refl _)]
theorem var_end:varD A A.length=.bad A.length 80:=by unfold varD;rw[isB_end,if_neg (by decide),word_end]
theorem split_le{p k:Nat}(h:p≤k):p<k∨p=k:=by omega
theorem want_lc(s:List UInt8){p:Nat}(hp:p≤A.length):Lc A.length true (wantD A s p) (wantD (A++B) s p):=by
 rcases split_le hp with h|rfl
 ·have:wantD (A++B) s p=wantD A s p:=by unfold wantD;rw[isB_app h]
  rw[this];exact Lc.rfl
 ·exact Lc.fin (want_end s)
theorem word_lc{p:Nat}(hp:p≤A.length):Lc A.length true (wordD A p) (wordD (A++B) p):=by
 rcases split_le hp with h|rfl
 ·have:wordD (A++B) p=wordD A p:=by unfold wordD;rw[List.getElem?_append_left h]
  rw[this];exact Lc.rfl
 ·exact Lc.fin word_end
theorem kind_lc{p:Nat}(hp:p≤A.length):Lc A.length true (kindD A p) (kindD (A++B) p):=by
 rcases split_le hp with h|rfl
 ·have:kindD (A++B) p=kindD A p:=by unfold kindD;rw[List.getElem?_append_left h]
  rw[this];exact Lc.rfl
 ·exact Lc.fin kind_end
theorem var_lc{p:Nat}(hp:p≤A.length):Lc A.length true (varD A p) (varD (A++B) p):=by
 rcases split_le hp with h|rfl
 ·have:varD (A++B) p=varD A p:=by unfold varD;rw[isB_app h];unfold wordD;rw[List.getElem?_append_left h]
  rw[this];exact Lc.rfl
 ·exact Lc.fin var_end
theorem cutN_app{p:Nat}(hp:p≤A.length):(cutN A p<A.length∧cutN (A++B) p=cutN A p)∨(cutN A p=A.length∧∃ m,cutN (A++B) p=A.length+m):=by
 have hc:=cutN_le hp
 unfold cutN stN at hc⊢
 rw[drop_app2 hp,List.takeWhile_append]
 have hd:(A.drop p).length=A.length-p:=List.length_drop
 split
 ·rename_i h
  right
  rw[hd]at h
  refine⟨by omega,(B.takeWhile standB).length,?_⟩
  rw[List.length_append,hd]
  omega
 ·rename_i h
  rw[hd]at h
  left
  exact⟨by omega,Eq.refl _⟩
where drop_app2 {p:Nat} (hp:p≤A.length):(A++B).drop p=A.drop p++B:=List.drop_append_of_le_length hp
theorem limK_mono{n d n' d':Nat}(h:limK n d≠0)(h1:n≤n')(h2:d≤d'):limK n' d'≠0:=by
 unfold limK at h⊢
 split at h
 ·rw[if_pos (by omega)];decide
 ·split at h
  ·split
   ·decide
   ·rw[if_pos (by omega)];decide
  ·exact absurd rfl h
theorem expr_lc{p:Nat}(hp:p≤A.length):Lc A.length false (exprD A p) (exprD (A++B) p):=by
 rcases cutN_app (B:=B) hp with⟨h1,h2⟩|⟨h1,m,h2⟩
 ·have:readR (A++B) (p:Int)=readR A p:=by
   unfold readR
   rw[if_neg (by rw[List.length_append];omega),if_neg (by omega)]
   simp only[Int.toNat_natCast]
   rw[h2,List.take_append_of_le_length (by omega)]
  unfold exprD
  rw[this]
  exact Lc.rfl
 ·have e1:readR A (p:Int)=match readP A p with
   |.bad q=>([],(q:Int),50)
   |.ok t q=>if limK t.size t.deep=0 then (lay t 0,(q:Int),0)else ([],(p:Int),limK t.size t.deep):=by
   unfold readR
   rw[if_neg (by omega)]
   simp only[Int.toNat_natCast]
   rw[h1,List.take_length]
   rfl
  have e2:readR (A++B) (p:Int)=match readP (A++B.take m) p with
   |.bad q=>([],(q:Int),50)
   |.ok t q=>if limK t.size t.deep=0 then (lay t 0,(q:Int),0)else ([],(p:Int),limK t.size t.deep):=by
   unfold readR
   rw[if_neg (by rw[List.length_append];omega)]
   simp only[Int.toNat_natCast]
   rw[h2,List.take_append,List.take_of_length_le (by omega),show A.length+m-A.length=m by omega]
   rfl
  have hR:RelR A.length (readP A p) (readP (A++B.take m) p):=by
   have:=pr_loc A (B.take m) (16 * (A++B.take m).length+16) (.bin 1) p hp
   rw[readP_fuel A hp (by rw[List.length_append];omega)]at this
   exact this
  unfold exprD
  rw[e1,e2]
  cases e3:readP A p with
  |bad q=>
   rw[e3]at hR
   simp only[]
   rw[if_neg (by decide)]
   refine⟨fun _ _ h=>by (cases h),fun q' e' h hq=>?_⟩
   cases h
   rw[hR hq]
   simp only[]
   rw[if_neg (by decide)]
   exact⟨_,_,rfl⟩
  |ok t q=>
   rw[e3]at hR
   simp only[]
   by_cases hk:limK t.size t.deep=0
   ·rw[if_pos hk]
    simp only[if_true]
    refine⟨fun x q' h hq=>?_,fun _ _ h=>by cases h⟩
    cases h
    have hq:q<A.length:=by
     rcases hq with h|h
     ·cases h
     ·exact h
    rw[hR.1 hq]
    simp only[]
    rw[if_pos hk]
    simp only[if_true]
   ·rw[if_neg hk]
    simp only[]
    rw[if_neg hk]
    refine⟨fun _ _ h=>by (cases h),fun q' e' h hq=>?_⟩
    cases e4:readP (A++B.take m) p with
    |bad r=>simp only[];rw[if_neg (by decide)];exact⟨_,_,rfl⟩
    |ok t' r=>
     have g:=hR.2 t' r e4
     have:=limK_mono hk g.1 g.2
     simp only[]
     rw[if_neg this]
     simp only[]
     rw[if_neg this]
     exact⟨_,_,rfl⟩
theorem pr_badge(ts:List Tk):∀ (f:Nat) (m:Md) (p q:Nat),p≤ts.length→pr ts f m p=.bad q→p≤q:=by
 intro f
 induction f with
 |zero=>intro m p q hp h;cases m<;>(cases h;exact Nat.le_refl _)
 |succ f ih=>
  intro m p q hp h
  have adv:=pr_adv ts f
  cases m with
  |bin n=>
   rw[pr]at h
   split at h
   ·exact ih _ _ _ hp h
   ·split at h
    ·rename_i e;cases h;exact ih _ _ _ hp e
    ·rename_i e;have a:=adv _ _ _ _ hp e;have:=ih _ _ _ a.2 h;have:=a.1.1;omega
  |lp n a=>
   rw[pr]at h
   split at h
   ·cases h
   ·rename_i hk
    have hlt:=opK_lt (fun e=>hk (.inl e))
    split at h
    ·rename_i e;cases h;have:=ih _ _ _ (show p+1≤ts.length by omega) e;omega
    ·rename_i e
     split at h
     ·cases h
     ·have a:=adv _ _ _ _ (show p+1≤ts.length by omega) e;have:=ih _ _ _ a.2 h;have:=a.1.1;omega
  |un=>
   rw[pr]at h
   split at h
   ·rename_i hm
    have hlt:p<ts.length:=hm.elim mkA_eq mkA_eq
    split at h
    ·rename_i e;cases h;have:=ih _ _ _ (show p+1≤ts.length by omega) e;omega
    ·cases h
   ·exact ih _ _ _ hp h
  |fs=>
   rw[pr]at h
   split at h
   ·rename_i hm
    have hlt:p<ts.length:=mkA_eq hm
    split at h
    ·rename_i e;cases h;have:=ih _ _ _ (show p+1≤ts.length by omega) e;omega
    ·rename_i e
     split at h
     ·cases h
     ·cases h;have:=(adv _ _ _ _ (show p+1≤ts.length by omega) e).1.1;omega
   ·split at h
    ·cases h;exact Nat.le_refl _
    ·rename_i t e
     have hlt:p<ts.length:=(List.getElem?_eq_some_iff.1 e).1
     repeat' split at h
     all_goals first|(cases h;done)|(cases h;exact Nat.le_refl _)|(have:=ih _ _ _ (show p+1≤ts.length by omega) h;omega)
  |nm s=>
   rw[pr]at h
   split at h
   ·cases h
   split at h
   ·cases h
   split at h
   ·cases h
   split at h
   ·cases h;exact Nat.le_refl _
   rename_i hm
   have hlt:p<ts.length:=mkA_eq (Decidable.not_not.1 hm)
   split at h
   ·rename_i e;cases h;have:=ih _ _ _ (show p+1≤ts.length by omega) e;omega
   rename_i e
   have h1:=adv _ _ _ _ (show p+1≤ts.length by omega) e
   have h10:=h1.1.1
   split at h
   ·split at h
    ·cases h;omega
    rename_i hm2
    have hlt2:=mkA_eq (Decidable.not_not.1 hm2)
    split at h
    ·rename_i e2;cases h;have:=ih _ _ _ (show _+1≤ts.length by omega) e2;omega
    ·rename_i e2
     split at h
     ·cases h
     ·cases h;have:=(adv _ _ _ _ (show _+1≤ts.length by omega) e2).1.1;omega
   ·split at h
    ·cases h
    ·cases h;omega
theorem expr_end:∃ e,exprD A A.length=.bad A.length e:=by
 have ad:=expr_adv (ts:=A) (Nat.le_refl A.length)
 obtain⟨h1,h2,h3⟩:=readR_adv (ts:=A) (Nat.le_refl A.length)
 unfold exprD at ad⊢
 split at ad
 ·rename_i h
  have:=ad.1
  have:=ad.2
  omega
 ·rename_i h
  refine⟨(readR A A.length).2.2,?_⟩
  rw[if_neg h]
  congr 1
  unfold readR at h⊢
  rw[if_neg (by omega)]at h⊢
  simp only[Int.toNat_natCast]at h⊢
  have hcut:A.take (cutN A A.length)=A:=by rw[List.take_of_length_le];unfold cutN;omega
  rw[hcut]at h⊢
  cases e:readP A A.length with
  |bad q=>
   simp only[]
   have hq:=pr_badq A _ _ _ _ (Nat.le_refl _) e
   have hge:A.length≤q:=by
    exact pr_badge A _ _ _ _ (Nat.le_refl _) e
   omega
  |ok t q=>
   have:=(pr_adv A _ _ _ _ _ (Nat.le_refl _) e)
   obtain⟨⟨g1,_⟩,g2⟩:=this
   omega
theorem more_lc{α:Type}{I I':Nat→DR α}(hI:∀ p,p≤A.length→Lc A.length false (I p) (I' p))(hA:∀ p,p≤A.length→(I p).adv A p 1):∀ (f f':Nat) (l:List α) (p:Nat),p≤A.length→A.length<f+p→(A++B).length<f'+p→Lc A.length true (moreD A I f l p) (moreD (A++B) I' f' l p)
 |0,f',l,p,h1,h2,h3=>by omega
 |f+1,0,l,p,h1,h2,h3=>by rw[List.length_append]at h3;omega
 |f+1,f'+1,l,p,h1,h2,h3=>by
  rcases split_le h1 with h|rfl
  ·rw[moreD,moreD]
   simp only[isB_app h]
   split
   ·exact Lc.rfl
   split
   ·have ad:=hA (p+1) h
    refine (hI (p+1) h).bind (fun x q e=>by rw[e]at ad;exact ad.2) (fun x q e _=>?_) (fun _ x e=>?_)
    ·rw[e]at ad
     have:=ad.1
     exact more_lc hI hA f f' _ q ad.2 (by omega) (by omega)
    ·rw[e]at ad
     have:=ad.1
     obtain⟨g,rfl⟩:∃ g,f=g+1:=⟨f-1,by omega⟩
     refine⟨80,?_⟩
     rw[moreD,isB_end,isB_end,if_neg (by decide),if_neg (by decide)]
   ·exact Lc.rfl
  ·refine Lc.fin (e:=80) ?_
   rw[moreD,isB_end,isB_end,if_neg (by decide),if_neg (by decide)]
theorem list_lc{α:Type}{I I':Nat→DR α}(hI:∀ p,p≤A.length→Lc A.length false (I p) (I' p))(hA:∀ p,p≤A.length→(I p).adv A p 1)(hE:∃ e,I A.length=.bad A.length e){p:Nat}(hp:p≤A.length):Lc A.length true (listD A I p) (listD (A++B) I' p):=by
 unfold listD
 refine (want_lc [40] hp).then rfl (want_adv hp _) fun _ p1 _ _ h1=>?_
 rcases split_le h1 with h|rfl
 ·rw[isB_app h]
  split
  ·exact Lc.rfl
  ·have ad:=hA p1 h1
   refine (hI p1 h1).bind (fun x q e=>by rw[e]at ad;exact ad.2) (fun x q e _=>?_) (fun _ x e=>⟨80,?_⟩)
   ·rw[e]at ad
    exact more_lc hI hA _ _ _ q ad.2 (by omega) (by omega)
   ·rw[moreD,isB_end,isB_end,if_neg (by decide),if_neg (by decide)]
 ·obtain⟨e,he⟩:=hE
  refine Lc.fin (e:=e) ?_
  rw[isB_end,if_neg (by decide),he]
  rfl
theorem args_lc{p:Nat}(hp:p≤A.length):Lc A.length true (argsD A p) (argsD (A++B) p):=list_lc (fun _ h=>expr_lc h) (fun _ h=>expr_adv h) expr_end hp
theorem tag_lc{p:Nat}(hp:p≤A.length):Lc A.length true (tagD A p) (tagD (A++B) p):=by
 unfold tagD
 refine (word_lc hp).then rfl (word_adv hp) fun n p1 _ _ h1=>?_
 refine (list_lc (fun _ h=>(kind_lc h).opn) (fun _ h=>kind_adv h) ⟨80,kind_end⟩ h1).then rfl (list_adv (fun _=>kind_adv) h1) fun l p2 _ _ h2=>?_
 exact (want_lc [59] h2).then rfl (want_adv h2 _) fun _ p3 _ _ h3=>Lc.rfl
theorem part_lc{p:Nat}(hp:p≤A.length):Lc A.length true (partD A p) (partD (A++B) p):=by
 unfold partD
 refine (word_lc hp).then rfl (word_adv hp) fun n p1 _ _ h1=>?_
 exact (list_lc (fun _ h=>(var_lc h).opn) (fun _ h=>var_adv h) ⟨80,var_end⟩ h1).then rfl (list_adv (fun _=>var_adv) h1) fun l p2 _ _ h2=>Lc.rfl
theorem act_end:actD A A.length=.bad A.length 80:=by
 unfold actD
 simp only[isB_end]
 rw[if_neg (by decide),if_neg (by decide),if_neg (by decide),if_neg (by decide)]
theorem act_lc{p:Nat}(hp:p≤A.length):Lc A.length true (actD A p) (actD (A++B) p):=by
 rcases split_le hp with h|rfl
 ·unfold actD
  simp only[isB_app h]
  split
  ·have ad:=expr_adv (ts:=A) (show p+1≤A.length from h)
   refine (expr_lc (show p+1≤A.length from h)).bind (fun x q e=>by rw[e]at ad;exact ad.2) (fun x q e _=>?_) (fun _ x e=>⟨80,?_⟩)
   ·rw[e]at ad
    refine (word_lc ad.2).then rfl (word_adv ad.2) fun n p2 _ _ h2=>?_
    exact (args_lc h2).then rfl (args_adv h2) fun l p3 _ _ h3=>Lc.rfl
   ·rw[word_end];rfl
  split
  ·refine (word_lc (show p+1≤A.length from h)).then rfl (word_adv h) fun n p1 _ _ h1=>?_
   refine (want_lc kAs h1).then rfl (want_adv h1 _) fun _ p2 _ _ h2=>?_
   exact (word_lc h2).then rfl (word_adv h2) fun v p3 _ _ h3=>Lc.rfl
  split
  ·exact (args_lc (show p+1≤A.length from h)).then rfl (args_adv h) fun l p1 _ _ h1=>Lc.rfl
  split
  ·exact (word_lc (show p+1≤A.length from h)).then rfl (word_adv h) fun n p1 _ _ h1=>Lc.rfl
  ·exact Lc.rfl
 ·exact Lc.fin act_end
theorem acts_lc:∀ (f f':Nat) (l:List Ac) (p:Nat),p≤A.length→A.length<f+p→(A++B).length<f'+p→Lc A.length true (actsD A f l p) (actsD (A++B) f' l p)
 |0,f',l,p,h1,h2,h3=>by omega
 |f+1,0,l,p,h1,h2,h3=>by rw[List.length_append]at h3;omega
 |f+1,f'+1,l,p,h1,h2,h3=>by
  rcases split_le h1 with h|rfl
  ·rw[actsD,actsD]
   simp only[isB_app h]
   split
   ·exact Lc.rfl
   ·refine (act_lc h1).then rfl (act_adv h1) fun a p1 _ g1 g2=>?_
    refine (want_lc [59] g2).then rfl (want_adv g2 _) fun _ p2 _ g3 g4=>?_
    exact acts_lc f f' _ p2 g4 (by omega) (by omega)
  ·refine Lc.fin (e:=80) ?_
   rw[actsD,isB_end,if_neg (by decide),act_end];rfl
theorem body_lc{p:Nat}(hp:p≤A.length):Lc A.length true (bodyD A p) (bodyD (A++B) p):=by
 unfold bodyD
 exact (want_lc [123] hp).then rfl (want_adv hp _) fun _ p1 _ _ h1=>acts_lc _ _ _ p1 h1 (by omega) (by omega)
theorem body_end:bodyD A A.length=.bad A.length 80:=by unfold bodyD;rw[want_end];rfl
theorem parts_lc:∀ (f f':Nat) (l:List Pt) (p:Nat),p≤A.length→A.length<f+p→(A++B).length<f'+p→Lc A.length false (partsD A f l p) (partsD (A++B) f' l p)
 |0,f',l,p,h1,h2,h3=>by omega
 |f+1,0,l,p,h1,h2,h3=>by rw[List.length_append]at h3;omega
 |f+1,f'+1,l,p,h1,h2,h3=>by
  rcases split_le h1 with h|rfl
  ·rw[partsD,partsD]
   simp only[isB_app h]
   split
   ·refine (part_lc (show p+1≤A.length from h)).then rfl (part_adv h) fun a p1 _ g1 g2=>?_
    exact parts_lc f f' _ p1 g2 (by omega) (by omega)
   ·exact Lc.rfl
  ·rw[partsD,isB_end,if_neg (by decide)]
   exact⟨fun x q e hq=>by (cases e;rcases hq with hq|hq;cases hq;exact absurd hq (Nat.lt_irrefl _)),fun _ _ e=>by cases e⟩
theorem guard_lc{p:Nat}(hp:p≤A.length):Lc A.length false (guardD A p) (guardD (A++B) p):=by
 rcases split_le hp with h|rfl
 ·unfold guardD
  simp only[isB_app h]
  split
  ·exact expr_lc h
  ·exact Lc.rfl
 ·unfold guardD
  rw[isB_end,if_neg (by decide)]
  exact⟨fun x q e hq=>by (cases e;rcases hq with hq|hq;cases hq;exact absurd hq (Nat.lt_irrefl _)),fun _ _ e=>by cases e⟩
theorem chord_end:chordD A A.length=.bad A.length 80:=by unfold chordD;rw[want_end];rfl
theorem chord_lc{p:Nat}(hp:p≤A.length):Lc A.length true (chordD A p) (chordD (A++B) p):=by
 unfold chordD
 refine (want_lc kChord hp).then rfl (want_adv hp _) fun _ p1 _ _ h1=>?_
 refine (word_lc h1).then rfl (word_adv h1) fun n p2 _ _ h2=>?_
 refine (want_lc [58] h2).then rfl (want_adv h2 _) fun _ p3 _ _ h3=>?_
 refine (part_lc h3).then rfl (part_adv h3) fun x p4 _ _ h4=>?_
 have a5:=parts_adv (ts:=A) (A.length+1) [x] p4 h4
 refine (parts_lc (A.length+1) ((A++B).length+1) [x] p4 h4 (by omega) (by omega)).bind (fun l q e=>by rw[e]at a5;exact a5.2) (fun l p5 e _=>?_) (fun _ l e=>⟨80,?_⟩)
 ·rw[e]at a5
  have a6:=guard_adv (ts:=A) a5.2
  refine (guard_lc a5.2).bind (fun g q e=>by rw[e]at a6;exact a6.2) (fun g p6 e2 _=>?_) (fun _ g e2=>⟨80,?_⟩)
  ·rw[e2]at a6
   exact (body_lc a6.2).then rfl (body_adv a6.2) fun b p7 _ _ h7=>Lc.rfl
  ·rw[body_end];rfl
 ·have:guardD A A.length=.ok [] A.length:=by unfold guardD;rw[isB_end,if_neg (by decide)]
  rw[this]
  show (bodyD A A.length).bind _=_
  rw[body_end];rfl
theorem chords_lc:∀ (f f':Nat) (l:List Ch) (p:Nat),p≤A.length→A.length<f+p→(A++B).length<f'+p→Lc A.length true (chordsD A f l p) (chordsD (A++B) f' l p)
 |0,f',l,p,h1,h2,h3=>by omega
 |f+1,0,l,p,h1,h2,h3=>by rw[List.length_append]at h3;omega
 |f+1,f'+1,l,p,h1,h2,h3=>by
  rcases split_le h1 with h|rfl
  ·rw[chordsD,chordsD]
   simp only[isB_app h]
   split
   ·exact Lc.rfl
   ·refine (chord_lc h1).then rfl (chord_adv h1) fun a p1 _ g1 g2=>?_
    exact chords_lc f f' _ p1 g2 (by omega) (by omega)
  ·refine Lc.fin (e:=80) ?_
   rw[chordsD,isB_end,if_neg (by decide),chord_end];rfl
theorem kind2_lc{p:Nat}(hp:p≤A.length):Lc A.length true (kindD2 A p) (kindD2 (A++B) p):=by
 unfold kindD2
 refine (want_lc kKind hp).then rfl (want_adv hp _) fun _ p1 _ _ h1=>?_
 refine (word_lc h1).then rfl (word_adv h1) fun n p2 _ _ h2=>?_
 refine (want_lc [123] h2).then rfl (want_adv h2 _) fun _ p3 _ _ h3=>?_
 exact (chords_lc _ _ _ p3 h3 (by omega) (by omega)).then rfl (chords_adv _ _ _ h3) fun l p4 _ _ h4=>Lc.rfl
theorem prog_lc:∀ (f f':Nat) (g:Pg) (p:Nat),p≤A.length→A.length<f+p→(A++B).length<f'+p→
  (∀ x q,progD A f g p=.ok x q→q=A.length∧∃ f2,(A++B).length<f2+A.length∧progD (A++B) f' g p=progD (A++B) f2 x A.length)∧(∀ q e,progD A f g p=.bad q e→q<A.length→∃ q' e',progD (A++B) f' g p=.bad q' e')
 |0,f',g,p,h1,h2,h3=>by omega
 |f+1,0,g,p,h1,h2,h3=>by rw[List.length_append]at h3;omega
 |f+1,f'+1,g,p,h1,h2,h3=>by
  rcases split_le h1 with h|rfl
  ·rw[progD,progD,if_pos h,if_pos (show p<(A++B).length by rw[List.length_append];omega)]
   simp only[isB_app h]
   split
   ·have a1:=tag_adv (ts:=A) (show p+1≤A.length from h)
    have l1:=tag_lc (B:=B) (show p+1≤A.length from h)
    cases e:tagD A (p+1)with
    |bad q e1=>
     refine⟨fun x q' h=>by (cases h),fun q' e' h' hq=>?_⟩
     cases h'
     obtain⟨q2,e2,h2⟩:=l1.bad q e1 e hq
     rw[h2]
     exact⟨q2,e2,rfl⟩
    |ok x q=>
     rw[e]at a1
     rw[l1.ok x q e (.inl rfl)]
     have:=a1.1
     exact prog_lc f f' _ q a1.2 (by omega) (by omega)
   ·have a1:=kind2_adv (ts:=A) h1
    have l1:=kind2_lc (B:=B) h1
    cases e:kindD2 A p with
    |bad q e1=>
     refine⟨fun x q' h=>by (cases h),fun q' e' h' hq=>?_⟩
     cases h'
     obtain⟨q2,e2,h2⟩:=l1.bad q e1 e hq
     rw[h2]
     exact⟨q2,e2,rfl⟩
    |ok x q=>
     rw[e]at a1
     rw[l1.ok x q e (.inl rfl)]
     have:=a1.1
     exact prog_lc f f' _ q a1.2 (by omega) (by omega)
  ·rw[progD,if_neg (Nat.lt_irrefl _)]
   refine⟨fun x q e=>?_,fun q e h=>by cases h⟩
   cases e
   exact⟨rfl,f'+1,h3,rfl⟩
theorem spanEnd_uniq{q:Nat→Bool}{l:List UInt8}:∀ (k:Nat) {i m:Nat},m=i+k→m≤l.length→(∀ j,i≤j→j<m→q (atL l j)=true)→(m<l.length→q (atL l m)=false)→spanEnd q l i=m
 |0,i,m,e,_,_,hs=>by
  subst e
  exact spanEnd_stop fun h=>hs h
 |k+1,i,m,e,hm,ha,hs=>by
  have hi:i<l.length:=by omega
  rw[spanEnd_step hi (ha i (Nat.le_refl _) (by omega))]
  exact spanEnd_uniq k (by omega) hm (fun j h1 h2=>ha j (by omega) h2) hs
theorem spanEnd_facts{q:Nat→Bool}{l:List UInt8}:∀ (k:Nat) {i:Nat},l.length-i=k→i≤l.length→(∀ j,i≤j→j<spanEnd q l i→q (atL l j)=true)∧(spanEnd q l i<l.length→q (atL l (spanEnd q l i))=false)
 |0,i,hk,hi=>by
  have e:spanEnd q l i=i:=spanEnd_stop fun h=>by omega
  rw[e]
  exact⟨fun j h1 h2=>by omega,fun h=>by omega⟩
 |k+1,i,hk,hi=>by
  by_cases hq:q (atL l i)=true
  ·have e:spanEnd q l i=spanEnd q l (i+1):=spanEnd_step (by omega) hq
   obtain⟨h1,h2⟩:=spanEnd_facts (q:=q) (l:=l) k (i:=i+1) (by omega) (by omega)
   rw[e]
   refine⟨fun j g1 g2=>?_,h2⟩
   by_cases hj:j=i
   ·subst hj;exact hq
   ·exact h1 j (by omega) g2
  ·have hq':q (atL l i)=false:=by simpa using hq
   have e:spanEnd q l i=i:=spanEnd_stop fun h=>hq'
   rw[e]
   exact⟨fun j h1 h2=>by omega,fun _=>hq'⟩
theorem blank_cases{c:Nat}(h:blankN c=true):c=32∨c=9∨c=10∨c=13:=by unfold blankN at h;exact of_decide_eq_true h
theorem blank_digit(c:Nat)(h:blankN c=true):digitN c=false:=by rcases blank_cases h with rfl|rfl|rfl|rfl<;>rfl
theorem blank_name(c:Nat)(h:blankN c=true):nameN c=false:=by rcases blank_cases h with rfl|rfl|rfl|rfl<;>rfl
theorem hasSub_mem:∀ (l:List UInt8) (a c:UInt8),hasSub l [a,c]=true→c∈l
 |[],a,c,h=>by simp[hasSub]at h
 |b::l,a,c,h=>by
  rw[hasSub,Bool.or_eq_true]at h
  rcases h with h|h
  ·rw[List.isPrefixOf_iff_prefix]at h
   obtain⟨r,hr⟩:=h
   rw[←hr];simp
  ·exact List.mem_cons_of_mem _ (hasSub_mem l a c h)
theorem sub_blank{s:List UInt8}(h1:1<s.length)(hb:blankN (atL s 1)=true)(h32:atL s 1≠32):hasSub dblL (s.take 2)=false:=by
 match s,h1 with
 |a::c::r,_=>
  cases e:hasSub dblL ((a::c::r).take 2)with
  |false=>rfl
  |true=>
   have hm:=hasSub_mem dblL a c (by simpa using e)
   have ec:atL (a::c::r) 1=c.toNat:=rfl
   rw[ec]at hb h32
   exfalso
   have hall:∀ x∈dblL,blankN x.toNat=true→x.toNat=32:=by decide
   exact h32 (hall c hm hb)
structure Loc(s s':List UInt8)(n:Nat):Prop where
 le:n≤s.length
 le':n≤s'.length
 tk:s'.take n=s.take n
 nx:(n<s.length∧n<s'.length∧s'.take (n+1)=s.take (n+1))∨s'.length=n∨blankN (atL s' n)=true
theorem atL_tk{s s':List UInt8}{n i:Nat}(h:s'.take n=s.take n)(hi:i<n):atL s' i=atL s i:=by
 have e:(s'.take n)[i]?=(s.take n)[i]?:=by rw[h]
 rw[List.getElem?_take,List.getElem?_take,if_pos hi,if_pos hi]at e
 unfold atL
 rw[List.getD_eq_getElem?_getD,List.getD_eq_getElem?_getD,e]
theorem take_le{s s':List UInt8}{n m:Nat}(h:s'.take n=s.take n)(hm:m≤n):s'.take m=s.take m:=by
 have:=congrArg (List.take m) h
 rwa [List.take_take,List.take_take,Nat.min_eq_left hm]at this
theorem Loc.at{s s':List UInt8}{n i:Nat}(h:Loc s s' n)(hi:i<n):atL s' i=atL s i:=atL_tk h.tk hi
theorem Loc.stop{s s':List UInt8}{n:Nat}(h:Loc s s' n){q:Nat→Bool}(hq:∀ c,blankN c=true→q c=false)(hs:n<s.length→q (atL s n)=false):n<s'.length→q (atL s' n)=false:=by
 intro hn
 rcases h.nx with⟨h1,h2,h3⟩|h1|h1
 ·rw[atL_tk h3 (by omega)];exact hs h1
 ·omega
 ·exact hq _ h1
theorem Loc.span{s s':List UInt8}{n i:Nat}(h:Loc s s' n){q:Nat→Bool}(hq:∀ c,blankN c=true→q c=false)(hi:i≤n)(hm:spanEnd q s i≤n):spanEnd q s' i=spanEnd q s i:=by
 have hle:=h.le
 have hle':=h.le'
 obtain⟨h1,h2⟩:=spanEnd_facts (q:=q) (l:=s) _ (i:=i) rfl (by omega)
 have h3:=spanEnd_ge q s i
 refine spanEnd_uniq (spanEnd q s i-i) (by omega) (by omega) (fun j g1 g2=>?_) ?_
 ·rw[h.at (by omega)];exact h1 j g1 g2
 ·by_cases he:spanEnd q s i=n
  ·rw[he];rw[he]at h2;exact h.stop hq h2
  ·intro _
   rw[h.at (by omega)]
   exact h2 (by omega)
theorem Loc.num{s s':List UInt8}{n i:Nat}(h:Loc s s' n)(hi:i≤n)(hm:digitsEnd s i≤n):digitsEnd s' i=digitsEnd s i∧numL s' i=numL s i:=by
 have e:digitsEnd s' i=digitsEnd s i:=h.span (q:=digitN) blank_digit hi hm
 refine⟨e,?_⟩
 have hge:=digitsEnd_ge s i
 unfold numL
 rw[e,←List.drop_take,←List.drop_take,take_le h.tk (by omega)]
theorem Loc.name{s s':List UInt8}{n:Nat}(h:Loc s s' n)(hn:nameN (atL s n)=false):nameN (atL s' n)=false:=by
 by_cases hl:n<s'.length
 ·exact h.stop (q:=nameN) blank_name (fun _=>hn) hl
 ·have:atL s' n=0:=by unfold atL;rw[List.getD_eq_getElem?_getD,List.getElem?_eq_none (by omega)];rfl
  rw[this];decide
theorem realO_follow{sg:Nat}{a b:List UInt8}{f g:Nat}(h:realO sg a b f=true)(hg:nameN g=false):realO sg a b g=true∧nameN f=false:=by
 unfold realO at h⊢
 simp only[Bool.and_eq_true,Bool.not_eq_true']at h⊢
 obtain⟨⟨⟨⟨⟨h1,h2⟩,h3⟩,h4⟩,h5⟩,h6⟩:=h
 exact⟨⟨⟨⟨⟨⟨h1,h2⟩,h3⟩,h4⟩,hg⟩,h6⟩,h5⟩
theorem realO_name{sg:Nat}{a b:List UInt8}{f:Nat}(h:realO sg a b f=true):nameN f=false:=by
 unfold realO at h
 simp only[Bool.and_eq_true,Bool.not_eq_true']at h
 exact h.1.2
theorem numberD_loc{s s':List UInt8}{t:TokD}(hd:digitN (atL s 0)=true)(h:numberD s=.ok t)(hL:Loc s s' t.size):numberD s'=.ok t:=by
 have hlt:=digitsEnd_lt hd
 unfold numberD at h
 split at h
 ·rename_i hc
  unfold realD at h
  split at h
  ·rename_i hr
   cases h
   have hlt2:digitsEnd s 0+1+sgOf s<digitsEnd s (digitsEnd s 0+1+sgOf s):=digitsEnd_lt hc.2
   have hL':Loc s s' (digitsEnd s (digitsEnd s 0+1+sgOf s)):=hL
   obtain⟨e1,e2⟩:=hL'.num (i:=0) (by omega) (by omega)
   have hsg:sgOf s'=sgOf s:=by
    unfold sgOf
    rw[e1,hL'.at (i:=digitsEnd s 0) (by omega),hL'.at (i:=digitsEnd s 0+1) (by omega)]
   obtain⟨e3,e4⟩:=hL'.num (i:=digitsEnd s 0+1+sgOf s) (by omega) (Nat.le_refl _)
   unfold numberD
   rw[hsg,e1,hL'.at (i:=digitsEnd s 0) (by omega),hL'.at (i:=digitsEnd s 0+1+sgOf s) (by omega),if_pos hc]
   unfold realD
   rw[e2,e3,e4,if_pos (realO_follow hr (hL'.name (realO_name hr))).1]
  ·cases h
 ·rename_i hc
  split at h
  ·rename_i hr
   cases h
   have hL':Loc s s' (digitsEnd s 0):=hL
   obtain⟨e1,e2⟩:=hL'.num (i:=0) (by omega) (Nat.le_refl _)
   have hnm:=hL'.name hr.2
   unfold numberD
   rw[e1,e2,if_neg,if_pos ⟨hr.1,hnm⟩]
   rintro⟨g1,_⟩
   rw[g1]at hnm
   revert hnm;decide
  ·cases h
theorem escF_loc{s s':List UInt8}{n i:Nat}(hL:Loc s s' n)(h0:(escF (s.drop i)).2≠0)(hn:i+(escF (s.drop i)).2≤n):escF (s'.drop i)=escF (s.drop i):=by
 have ea:∀ (l:List UInt8) j,atL (l.drop i) j=atL l (i+j):=fun l j=>by
  unfold atL;simp only[List.getD_eq_getElem?_getD,List.getElem?_drop]
 unfold escF at h0 hn⊢
 simp only[ea,List.length_drop]at h0 hn⊢
 have hle:=hL.le
 have hle':=hL.le'
 split at h0
 ·rename_i h1
  rw[if_pos h1]at hn
  simp only at hn
  rw[hL.at (i:=i+1) (by omega),if_pos h1,if_pos h1]
 ·rename_i h1
  split at h0
  ·rename_i h2
   rw[if_neg h1,if_pos h2]at hn
   simp only at hn
   rw[hL.at (i:=i+1) (by omega),hL.at (i:=i+2) (by omega),hL.at (i:=i+3) (by omega),if_neg h1,if_pos h2,if_neg h1,if_pos ⟨h2.1,by omega,h2.2.2⟩]
  ·exact absurd rfl h0
theorem textF_loc{s s':List UInt8}{n:Nat}(hL:Loc s s' n):∀ (k k' i:Nat) (d q:List UInt8),textF k s i d=some (q,n)→n≤k'+i→textF k' s' i d=some (q,n)
 |0,_,_,_,_,h,_=>by cases h
 |k+1,k',i,d,q,h,hk=>by
  obtain⟨hs1,hs2⟩:=textF_size s (k+1) i d q n h
  have hle':=hL.le'
  cases k' with
  |zero=>omega
  |succ k'=>
   rw[textF]at h⊢
   rw[if_neg (by omega)]at h⊢
   rw[hL.at (i:=i) (by omega)]
   split at h
   ·rename_i h1;rw[if_pos h1];exact h
   ·rename_i h1
    rw[if_neg h1]
    split at h
    ·rename_i h2
     rw[if_pos h2]
     split at h
     ·cases h
     ·rename_i h3
      have hz:=textF_size s k _ _ q n h
      have ee:=escF_loc hL (i:=i) h3 (by omega)
      rw[ee,if_neg h3]
      exact textF_loc hL k k' _ _ q h (by omega)
    ·rename_i h2
     rw[if_neg h2]
     split at h
     ·cases h
     ·rename_i h3
      rw[if_neg h3]
      exact textF_loc hL k k' _ _ q h (by omega)
theorem textD_loc{s s':List UInt8}{t:TokD}(h:textD s=.ok t)(hL:Loc s s' t.size):textD s'=.ok t:=by
 unfold textD at h
 split at h
 ·cases h
 ·rename_i d n hq
  cases h
  have hL':Loc s s' n:=hL
  have:=textF_loc hL' _ s'.length 1 [] d hq (by have:=hL'.le';omega)
  unfold textD
  rw[this]
theorem take2_eq{s s':List UInt8}(h:s'.take 2=s.take 2)(h1:2≤s.length)(h2:2≤s'.length):markN s'=markN s:=by
 unfold markN
 have e0:atL s' 0=atL s 0:=atL_tk h (by omega)
 have e1:atL s' 1=atL s 1:=atL_tk h (by omega)
 have l1:1<s.length:=by omega
 have l2:1<s'.length:=by omega
 rw[h,e0,e1]
 simp only[l1,l2,true_and]
theorem markN_loc{s s':List UInt8}(h0:markN s≠0)(hL:Loc s s' (markN s)):markN s'=markN s:=by
 have hle:=hL.le
 have hle':=hL.le'
 by_cases h2:markN s=2
 ·rw[h2]at hL hle hle'
  exact take2_eq hL.tk hle hle'
 ·have h1:markN s=1:=by
   unfold markN at h0 h2⊢
   split
   ·rename_i h;rw[if_pos h]at h2;exact absurd rfl h2
   ·rename_i h;rw[if_neg h]at h0;split
    ·rfl
    ·rename_i h';rw[if_neg h']at h0;exact absurd rfl h0
  rw[h1]at hL hle hle'
  rcases hL.nx with⟨g1,g2,g3⟩|g1|g1
  ·exact take2_eq g3 (by omega) (by omega)
  ·have hs:0≤Lib.indexByte sglL (atL s 0).toUInt8:=by
    unfold markN at h1
    split at h1
    ·cases h1
    ·split at h1
     ·rename_i h;exact h
     ·cases h1
   rw[h1]
   unfold markN
   rw[if_neg (by rintro⟨q,_⟩;omega),hL.at (i:=0) (by omega),if_pos hs]
  ·have hs:0≤Lib.indexByte sglL (atL s 0).toUInt8:=by
    unfold markN at h1
    split at h1
    ·cases h1
    ·split at h1
     ·rename_i h;exact h
     ·cases h1
   rw[h1]
   unfold markN
   rw[if_neg (by rintro⟨q0,_,q,q4⟩;rw[sub_blank q0 g1 q]at q4;cases q4),hL.at (i:=0) (by omega),if_pos hs]
theorem headD_loc{s s':List UInt8}{t:TokD}(h:headD s=.ok t)(h1:1≤t.size)(hL:Loc s s' t.size):headD s'=.ok t:=by
 have e0:atL s' 0=atL s 0:=hL.at (by omega)
 unfold headD at h⊢
 rw[e0]
 split at h
 ·rename_i hl
  rw[if_pos hl]
  split at h
  ·cases h
  ·rename_i h32
   cases h
   have hL':Loc s s' (spanEnd nameN s 1):=hL
   have hge:=spanEnd_ge nameN s 1
   have e:=hL'.span (q:=nameN) blank_name hge (Nat.le_refl _)
   rw[e,if_neg h32,hL'.tk]
 ·rename_i hl
  rw[if_neg hl]
  split at h
  ·rename_i hd;rw[if_pos hd];exact numberD_loc hd h hL
  ·rename_i hd
   rw[if_neg hd]
   split at h
   ·rename_i ht;rw[if_pos ht];exact textD_loc h hL
   ·rename_i ht
    rw[if_neg ht]
    split at h
    ·cases h
    ·rename_i hm
     cases h
     have hL':Loc s s' (markN s):=hL
     have e:=markN_loc hm hL'
     rw[e,if_neg hm,hL'.tk]
def Pre(l:List UInt8):Nat→List (TokD×Nat)→Nat→Prop
 |i,[],j=>i=j
 |i,x::T,j=>x.2=nextT l i∧x.2<l.length∧headD (l.drop x.2)=.ok x.1∧Pre l (x.2+x.1.size) T j
theorem head_size2{l:List UInt8}{p:Nat}{t:TokD}(hp:p<l.length)(h:headD (l.drop p)=.ok t):1≤t.size∧p+t.size≤l.length:=by
 have:=headD_size (l:=l.drop p) (by rw[List.length_drop];omega) h
 rw[List.length_drop]at this
 omega
theorem Pre.le{l:List UInt8}:∀ {T:List (TokD×Nat)} {i j:Nat},i≤l.length→Pre l i T j→i+T.length≤j∧j≤l.length
 |[],i,j,hi,h=>by have h:i=j:=h;subst h;exact⟨Nat.le_refl _,hi⟩
 |x::T,i,j,hi,h=>by
  obtain⟨h1,h2,h3,h4⟩:=h
  obtain⟨s1,s2⟩:=head_size2 h2 h3
  have:=Pre.le s2 h4
  have:=nextT_ge l i
  rw[List.length_cons]
  omega
theorem Pre.items{l:List UInt8}:∀ {T:List (TokD×Nat)} {i j f:Nat},Pre l i T j→itemsF (f+T.length) l i=T.map okI++itemsF f l j
 |[],i,j,f,h=>by have h:i=j:=h;subst h;rfl
 |x::T,i,j,f,h=>by
  obtain⟨h1,h2,h3,h4⟩:=h
  rw[List.length_cons,←Nat.add_assoc,itemsF,←h1,if_neg (by omega),h3]
  show ((x.1,x.2),(0:Int))::itemsF (f+T.length) l (x.2+x.1.size)=_
  rw[Pre.items h4]
  rfl
theorem Pre.app{l:List UInt8}:∀ {T T':List (TokD×Nat)} {i j k:Nat},Pre l i T j→Pre l j T' k→Pre l i (T++T') k
 |[],T',i,j,k,h,h'=>by have h:i=j:=h;subst h;exact h'
 |x::T,T',i,j,k,h,h'=>⟨h.1,h.2.1,h.2.2.1,Pre.app h.2.2.2 h'⟩
theorem items_pre(l:List UInt8):∀ (f i:Nat),i≤l.length→l.length+1≤f+i→∃ T j,Pre l i T j∧
  ((l.length≤nextT l j∧itemsF f l i=T.map okI)∨∃ e,nextT l j<l.length∧headD (l.drop (nextT l j))=.error e∧itemsF f l i=T.map okI++[((zeroT,nextT l j),e)])
 |0,i,h1,h2=>by omega
 |f+1,i,h1,h2=>by
  have hge:=nextT_ge l i
  rw[itemsF]
  split
  ·rename_i h
   exact⟨[],i,rfl,.inl ⟨h,rfl⟩⟩
  ·rename_i h
   split
   ·rename_i e he
    exact⟨[],i,rfl,.inr ⟨e,by omega,he,rfl⟩⟩
   ·rename_i t ht
    obtain⟨s1,s2⟩:=head_size2 (by omega) ht
    obtain⟨T,j,hp,hc⟩:=items_pre l f (nextT l i+t.size) s2 (by omega)
    refine⟨(t,nextT l i)::T,j,⟨rfl,by show nextT l i<_;omega,ht,hp⟩,?_⟩
    rcases hc with⟨c1,c2⟩|⟨e,c1,c2,c3⟩
    ·exact .inl ⟨c1,by rw[c2];rfl⟩
    ·exact .inr ⟨e,c1,c2,by rw[c3];rfl⟩
theorem find_ok(T:List (TokD×Nat)):(T.map okI).find? badI=none:=by
 rw[List.find?_eq_none]
 intro x hx
 obtain⟨y,_,rfl⟩:=List.mem_map.1 hx
 rw[okI_not]
 decide
theorem find_bad(T:List (TokD×Nat))(x:(TokD×Nat)×Int)(hx:x.2≠0):(T.map okI++[x]).find? badI=some x:=by
 rw[List.find?_append,find_ok]
 have:badI x=true:=by unfold badI;exact decide_eq_true hx
 simp[this]
theorem map_okI(T:List (TokD×Nat)):(T.map okI).map (fun x=>x.1)=T:=by
 rw[List.map_map]
 exact List.map_id T
theorem toks_cases(l:List UInt8):(32768<l.length∧okToks l=none∧(eachItems l).find? badI=some ((zeroT,0),3))∨
  (l.length≤32768∧∃ T j,Pre l 0 T j∧l.length≤nextT l j∧okToks l=some T)∨
  (l.length≤32768∧∃ T j e,Pre l 0 T j∧nextT l j<l.length∧headD (l.drop (nextT l j))=.error e∧okToks l=none∧(eachItems l).find? badI=some ((zeroT,nextT l j),e)):=by
 by_cases hb:32768<l.length
 ·have h:(eachItems l).find? badI=some ((zeroT,0),3):=by unfold eachItems;rw[if_pos hb];rfl
  exact .inl ⟨hb,by unfold okToks;rw[h],h⟩
 ·have hi:eachItems l=itemsF (l.length+1) l 0:=by unfold eachItems;rw[if_neg hb]
  obtain⟨T,j,hp,hc⟩:=items_pre l (l.length+1) 0 (Nat.zero_le _) (by omega)
  rcases hc with⟨c1,c2⟩|⟨e,c1,c2,c3⟩
  ·exact .inr (.inl ⟨by omega,T,j,hp,c1,by unfold okToks;rw[hi,c2,find_ok];simp only[map_okI]⟩)
  ·have h:(eachItems l).find? badI=some ((zeroT,nextT l j),e):=by rw[hi,c3,find_bad _ _ (headD_err c2)]
   exact .inr (.inr ⟨by omega,T,j,e,hp,c1,c2,by unfold okToks;rw[h],h⟩)
theorem okToks_of{l:List UInt8}{T:List (TokD×Nat)}{j:Nat}(hl:l.length≤32768)(hp:Pre l 0 T j)(hj:l.length≤nextT l j):okToks l=some T:=by
 have hi:eachItems l=itemsF (l.length+1) l 0:=by unfold eachItems;rw[if_neg (by omega)]
 obtain⟨h1,h2⟩:=Pre.le (Nat.zero_le _) hp
 have e:itemsF (l.length+1) l 0=T.map okI:=by
  have:=hp.items (f:=l.length+1-T.length)
  rw[show l.length+1-T.length+T.length=l.length+1 by omega]at this
  rw[this]
  obtain⟨g,hg⟩:∃ g,l.length+1-T.length=g+1:=⟨l.length-T.length,by omega⟩
  rw[hg,itemsF,if_pos hj,List.append_nil]
 unfold okToks
 rw[hi,e,find_ok]
 simp only[map_okI]
theorem noToks_of{l:List UInt8}{T:List (TokD×Nat)}{j:Nat}{e:Int}(hl:l.length≤32768)(hp:Pre l 0 T j)(hj:nextT l j<l.length)(he:headD (l.drop (nextT l j))=.error e):okToks l=none∧(eachItems l).find? badI=some ((zeroT,nextT l j),e):=by
 have hi:eachItems l=itemsF (l.length+1) l 0:=by unfold eachItems;rw[if_neg (by omega)]
 obtain⟨h1,h2⟩:=Pre.le (Nat.zero_le _) hp
 have e2:itemsF (l.length+1) l 0=T.map okI++[((zeroT,nextT l j),e)]:=by
  have:=hp.items (f:=l.length+1-T.length)
  rw[show l.length+1-T.length+T.length=l.length+1 by omega]at this
  rw[this]
  obtain⟨g,hg⟩:∃ g,l.length+1-T.length=g+1:=⟨l.length-T.length,by omega⟩
  rw[hg,itemsF,if_neg (by omega),he]
 have h:(eachItems l).find? badI=some ((zeroT,nextT l j),e):=by rw[hi,e2,find_bad _ _ (headD_err he)]
 exact⟨by unfold okToks;rw[h],h⟩
theorem gapL_nl:∀ (s b:List UInt8) (c:Bool),gapL c (s++10::b)=if gapL c s<s.length then gapL c s else s.length+1+gapL false b
 |[],b,true=>by
  have e:gapL true (10::b)=1+gapL false b:=by rw[gapL,if_pos (by decide)]
  rw[List.nil_append,e];simp[gapL]
 |[],b,false=>by
  have e:gapL false (10::b)=1+gapL false b:=by rw[gapL,if_pos (by decide)]
  rw[List.nil_append,e];simp[gapL]
 |x::s,b,true=>by
  rw[List.cons_append,gapL,gapL,List.length_cons]
  split
  ·rw[gapL_nl s b false];split<;>split<;>omega
  ·rw[gapL_nl s b true];split<;>split<;>omega
 |x::s,b,false=>by
  rw[List.cons_append,gapL,gapL,List.length_cons]
  split
  ·rw[gapL_nl s b false];split<;>split<;>omega
  ·split
   ·rw[gapL_nl s b true];split<;>split<;>omega
   ·rw[if_pos (by omega)]
theorem drop_app_le{a b:List UInt8}{i:Nat}(h:i≤a.length):(a++b).drop i=a.drop i++b:=List.drop_append_of_le_length h
theorem nextT_nl{a b:List UInt8}{i:Nat}(hi:i≤a.length):nextT (a++10::b) i=if nextT a i<a.length then nextT a i else a.length+1+nextT b 0:=by
 unfold nextT
 rw[drop_app_le hi,gapL_nl,List.length_drop,List.drop_zero]
 split<;>split<;>omega
theorem loc_nl{a b:List UInt8}{p n:Nat}(hn:p+n≤a.length):Loc (a.drop p) ((a++10::b).drop p) n:=by
 rw[drop_app_le (by omega)]
 have hl:(a.drop p).length=a.length-p:=List.length_drop
 refine⟨by omega,by rw[List.length_append];omega,by rw[List.take_append_of_le_length (by omega)],?_⟩
 by_cases h:n=a.length-p
 ·refine .inr (.inr ?_)
  have:atL (a.drop p++10::b) n=10:=by unfold atL;rw[List.getD_eq_getElem?_getD,List.getElem?_append_right (by omega),hl,h,Nat.sub_self];rfl
  rw[this];rfl
 ·exact .inl ⟨by omega,by rw[List.length_append];omega,by rw[List.take_append_of_le_length (by omega)]⟩
theorem Pre.nl{a:List UInt8}(b:List UInt8):∀ {T:List (TokD×Nat)} {i j:Nat},i≤a.length→Pre a i T j→Pre (a++10::b) i T j
 |[],i,j,hi,h=>h
 |x::T,i,j,hi,h=>by
  obtain⟨h1,h2,h3,h4⟩:=h
  obtain⟨s1,s2⟩:=head_size2 h2 h3
  refine⟨?_,by rw[List.length_append];omega,headD_loc h3 s1 (loc_nl s2),Pre.nl b s2 h4⟩
  rw[nextT_nl hi,if_pos (by omega)]
  exact h1
def shT(k:Nat)(T:List (TokD×Nat)):List (TokD×Nat):=T.map fun x=>(x.1,k+x.2)
theorem nextT_sh{c b:List UInt8}{i:Nat}:nextT (c++b) (c.length+i)=c.length+nextT b i:=by
 unfold nextT
 rw[←List.drop_drop,List.drop_left' rfl]
 omega
theorem Pre.sh(c:List UInt8){b:List UInt8}:∀ {T:List (TokD×Nat)} {i j:Nat},Pre b i T j→Pre (c++b) (c.length+i) (shT c.length T) (c.length+j)
 |[],i,j,h=>by have h:i=j:=h;subst h;exact rfl
 |x::T,i,j,h=>by
  obtain⟨h1,h2,h3,h4⟩:=h
  refine⟨?_,by show c.length+x.2<_;rw[List.length_append];omega,?_,?_⟩
  ·rw[nextT_sh,←h1]
  ·show headD ((c++b).drop (c.length+x.2))=_
   rw[←List.drop_drop,List.drop_left' rfl];exact h3
  ·have:=Pre.sh c h4
   rwa [←Nat.add_assoc]at this
theorem Pre.first{l:List UInt8}{T:List (TokD×Nat)}{i i' j:Nat}(h:Pre l i T j)(hT:T≠[])(hn:nextT l i'=nextT l i):Pre l i' T j:=by
 cases T with
 |nil=>exact absurd rfl hT
 |cons x T=>exact⟨by rw[hn];exact h.1,h.2⟩
end Go.Proofs.YtlobiioioicmhaaGreatDoor
