/- A part of the proof. -/
import Derived.Test.YtlobiioioicmhaaGreatDoorBQ15
set_option linter.all false
set_option maxHeartbeats 8000000
namespace Go.Proofs.YtlobiioioicmhaaGreatDoor
open _root_.List renaming getElem?_eq_some_iff→Bs,getElem?_append_left→Ba,getElem?_append_right→Br,length_append→Bp,append_assoc→Bo,cons_append→Bc,nil_append→Bi,length_map→Bk,getElem?_eq_none→Bq,take_of_length_le→Bt,length_drop→Bd,length_take→Bh,map_cons→BA,length_cons→BC,length_nil→BD,mem_cons→BI,append_nil→BS,getElem?_drop→BX,getElem?_take→BY
open _root_.Nat renaming le_refl→BL,zero_le→BN
open Go.Proofs.Tryz renaming prog→Tp
open Go Go.Ev
def RelR(k:Nat)(r r':Res):Prop:=match r with
 |.ok t q=>(q<k→r'=.ok t q)∧∀ t' q',r'=.ok t' q'→t.size≤t'.size∧t.deep≤t'.deep
 |.bad q=>q<k→r'=.bad q
theorem RelR.rfl{k:Nat}{r:Res}:RelR k r r:=by
 cases r with
 |ok t q=>exact⟨fun _=>Eq.refl _,fun t' q' e=>by cases e;exact⟨BL _,BL _⟩⟩
 |bad q=>exact fun _=>Eq.refl _
theorem lp_grow(ts:List Tk):∀ (f n:Nat) (a:Tr) (p:Nat) (t:Tr) (q:Nat),pr ts f (.lp n a) p=.ok t q→a.size≤t.size∧a.deep≤t.deep
 |0,n,a,p,t,q,h=>by cases h
 |f+1,n,a,p,t,q,h=>by
  rw[pr]at h
  split at h
  ·cases h;exact⟨BL _,BL _⟩
  ·split at h
   ·cases h
   ·rename_i b q' e
    split at h
    ·cases h;simp only[Tr.size,Tr.deep];exact⟨by omega,by omega⟩
    ·have:=lp_grow ts f n _ _ t q h;simp only[Tr.size,Tr.deep]at this;exact⟨by omega,by omega⟩
variable {A B:List Tk}
theorem mkA_app{p:Nat}(h:p<A.length):mkA (A++B) p=mkA A p:=by
 unfold mkA;rw[Ba h]
theorem mkA_end:mkA A A.length=[]:=by
 unfold mkA;rw[Bq (BL _)]
theorem lp_end(n:Nat)(a:Tr):∀ f,pr A f (.lp n a) A.length=.ok a A.length∨pr A f (.lp n a) A.length=.bad A.length
 |0=>.inr rfl
 |f+1=>.inl (by rw[pr,mkA_end,if_pos (.inl rfl)])
theorem pr_loc(A B:List Tk):∀ (f:Nat) (m:Md) (p:Nat),p≤A.length→RelR A.length (pr A f m p) (pr (A++B) f m p):=by
 intro f
 induction f with
 |zero=>intro m p hp;cases m<;>exact fun _=>rfl
 |succ f ih=>
  intro m p hp;have adv:=pr_adv A f;rw[pr_step,pr_step];cases m with
  |bin n=>
   simp only[prS]
   split
   ·exact ih _ _ hp
   ·have h:=ih (.bin (n+1)) p hp;cases e:pr A f (.bin (n+1)) p with
    |bad q=>
     rw[e]at h;simp only[];intro hq;rw[h hq]
    |ok a q=>
     rw[e]at h;have hq:=(adv _ _ _ _ hp e).2;simp only[]
     by_cases hk:q<A.length
     ·rw[h.1 hk];exact ih _ _ hq
     ·obtain rfl:q=A.length:=by omega
      rcases lp_end (A:=A) n a f with e2|e2
      ·rw[e2];refine⟨fun h=>absurd h (Nat.lt_irrefl _),fun t' q' e'=>?_⟩;cases e3:pr (A++B) f (.bin (n+1)) p with
       |bad r=>rw[e3]at e';cases e'
       |ok a' r=>
        rw[e3]at e';have g:=h.2 a' _ e3;have g2:=lp_grow _ _ _ _ _ _ _ e';exact⟨by omega,by omega⟩
      ·rw[e2];exact fun h=>absurd h (Nat.lt_irrefl _)
  |lp n a=>
   by_cases hpk:p<A.length
   ·simp only[prS,mkA_app hpk]
    split
    ·exact RelR.rfl
    ·have h:=ih (.bin (n+1)) (p+1) hpk;cases e:pr A f (.bin (n+1)) (p+1)with
     |bad q=>
      rw[e]at h;simp only[];intro hq;rw[h hq]
     |ok b q=>
      rw[e]at h;have hq:=(adv _ _ _ _ (show p+1≤A.length from hpk) e).2;simp only[]
      by_cases hk:q<A.length
      ·rw[h.1 hk];simp only[]
       split
       ·exact RelR.rfl
       ·exact ih _ _ hq
      ·obtain rfl:q=A.length:=by omega
       split
       ·rename_i h3;refine⟨fun h=>absurd h (Nat.lt_irrefl _),fun t' q' e'=>?_⟩;cases e3:pr (A++B) f (.bin (n+1)) (p+1)with
        |bad r=>rw[e3]at e';cases e'
        |ok b' r=>
         rw[e3]at e';cases e';have g:=h.2 b' _ e3;simp only[Tr.size,Tr.deep];exact⟨by omega,by omega⟩
       ·rcases lp_end (A:=A) n (.bi (opK (mkA A p)) a b) f with e2|e2
        ·rw[e2];refine⟨fun h=>absurd h (Nat.lt_irrefl _),fun t' q' e'=>?_⟩;cases e3:pr (A++B) f (.bin (n+1)) (p+1)with
         |bad r=>rw[e3]at e';cases e'
         |ok b' r=>
          rw[e3]at e';have g:=h.2 b' _ e3;have g2:=lp_grow _ _ _ _ _ _ _ e';simp only[Tr.size,Tr.deep]at g2⊢;exact⟨by omega,by omega⟩
        ·rw[e2];exact fun h=>absurd h (Nat.lt_irrefl _)
   ·obtain rfl:p=A.length:=by omega
    have e:prS A (pr A f) (.lp n a) A.length=.ok a A.length:=by simp only[prS,mkA_end];rw[if_pos (.inl rfl)]
    rw[e];refine⟨fun h=>absurd h (Nat.lt_irrefl _),fun t' q' e'=>?_⟩;rw[←pr_step]at e';exact lp_grow _ _ _ _ _ _ _ e'
  |un=>
   by_cases hpk:p<A.length
   ·simp only[prS,mkA_app hpk]
    split
    ·have h:=ih .un (p+1) hpk;cases e:pr A f .un (p+1)with
     |bad q=>
      rw[e]at h;simp only[];intro hq;rw[h hq]
     |ok a q=>
      rw[e]at h;simp only[];refine⟨fun hq=>by rw[h.1 hq],fun t' q' e'=>?_⟩;cases e3:pr (A++B) f .un (p+1)with
      |bad r=>rw[e3]at e';cases e'
      |ok a' r=>
       rw[e3]at e';cases e';have g:=h.2 a' _ e3;simp only[Tr.size,Tr.deep];exact⟨by omega,by omega⟩
    ·exact ih _ _ hp
   ·obtain rfl:p=A.length:=by omega
    have e:prS A (pr A f) .un A.length=.bad A.length:=by
     simp only[prS,mkA_end];rw[if_neg (by simp)];cases f with
     |zero=>rfl
     |succ f=>rw[pr_step];simp only[prS,mkA_end];rw[if_neg (by simp),Bq (BL _)]
    rw[e];exact fun h=>absurd h (Nat.lt_irrefl _)
  |fs=>
   by_cases hpk:p<A.length
   ·simp only[prS,mkA_app hpk]
    split
    ·have h:=ih (.bin 1) (p+1) hpk;cases e:pr A f (.bin 1) (p+1)with
     |bad q=>
      rw[e]at h;simp only[];intro hq;rw[h hq]
     |ok a q=>
      rw[e]at h;have hq:=(adv _ _ _ _ (show p+1≤A.length from hpk) e).2;simp only[]
      by_cases hk:q<A.length
      ·rw[h.1 hk];simp only[mkA_app hk];exact RelR.rfl
      ·obtain rfl:q=A.length:=by omega
       rw[mkA_end,if_neg (by simp)];exact fun h=>absurd h (Nat.lt_irrefl _)
    ·rw[Ba hpk]
     split
     ·exact RelR.rfl
     ·split
      ·exact RelR.rfl
      split
      ·exact RelR.rfl
      split
      ·exact RelR.rfl
      split
      ·exact RelR.rfl
      exact ih _ _ hpk
   ·obtain rfl:p=A.length:=by omega
    have e:prS A (pr A f) .fs A.length=.bad A.length:=by simp only[prS,mkA_end];rw[if_neg (by simp),Bq (BL _)]
    rw[e];exact fun h=>absurd h (Nat.lt_irrefl _)
  |nm s=>
   simp only[prS]
   split
   ·exact RelR.rfl
   split
   ·exact RelR.rfl
   split
   ·exact RelR.rfl
   by_cases hpk:p<A.length
   ·rw[mkA_app hpk]
    split
    ·exact RelR.rfl
    ·have h:=ih (.bin 1) (p+1) hpk;cases e:pr A f (.bin 1) (p+1)with
     |bad q=>
      rw[e]at h;simp only[];intro hq;rw[h hq]
     |ok a q=>
      rw[e]at h;have hq:=(adv _ _ _ _ (show p+1≤A.length from hpk) e).2;simp only[]
      by_cases hk:q<A.length
      ·rw[h.1 hk];simp only[mkA_app hk]
       split
       ·split
        ·exact RelR.rfl
        ·have h2:=ih (.bin 1) (q+1) hk;cases e2:pr A f (.bin 1) (q+1)with
         |bad r=>
          rw[e2]at h2;simp only[];intro hr;rw[h2 hr]
         |ok b r=>
          rw[e2]at h2;have hr:=(adv _ _ _ _ (show q+1≤A.length from hk) e2).2;simp only[]
          by_cases hkr:r<A.length
          ·rw[h2.1 hkr];simp only[mkA_app hkr];exact RelR.rfl
          ·obtain rfl:r=A.length:=by omega
           rw[mkA_end,if_neg (by simp)];exact fun h=>absurd h (Nat.lt_irrefl _)
       ·exact RelR.rfl
      ·obtain rfl:q=A.length:=by omega
       have:∀ {X:Res},(if kidsK (wordK s)=2 then (if mkA A A.length≠[44]then Res.bad A.length else X)else if mkA A A.length=[41]then .ok (.un (wordK s) a) (A.length+1)else .bad A.length)=.bad A.length:=by
        intro X;rw[mkA_end]
        split
        ·rw[if_pos (by simp)]
        ·rw[if_neg (by simp)]
       rw[this];exact fun h=>absurd h (Nat.lt_irrefl _)
   ·obtain rfl:p=A.length:=by omega
    rw[if_pos (by rw[mkA_end];simp)];exact fun h=>absurd h (Nat.lt_irrefl _)
structure Lc{α:Type}(k:Nat)(c:Bool)(r r':DR α):Prop where
 ok:∀ x q,r=.ok x q→(c=true∨q<k)→r'=.ok x q
 bad:∀ q e,r=.bad q e→q<k→∃ q' e',r'=.bad q' e'
theorem Lc.rfl{α:Type}{k:Nat}{c:Bool}{r:DR α}:Lc k c r r:=⟨fun _ _ h _=>h,fun q e h _=>⟨q,e,h⟩⟩
theorem Lc.fin{α:Type}{k:Nat}{c:Bool}{r r':DR α}{e:Int}(h:r=.bad k e):Lc k c r r':=⟨fun _ _ h' _=>by (rw[h]at h';cases h'),fun q e' h' hq=>by (rw[h]at h';cases h';exact absurd hq (Nat.lt_irrefl _))⟩
theorem Lc.opn{α:Type}{k:Nat}{r r':DR α}(h:Lc k true r r'):Lc k false r r':=⟨fun x q e _=>h.ok x q e (.inl (Eq.refl _)),h.bad⟩
theorem Lc.bind{α β:Type}{k:Nat}{c1 c2:Bool}{r r':DR α}{f f':α→Nat→DR β}(h:Lc k c1 r r')(hq:∀ x q,r=.ok x q→q≤k)(hf:∀ x q,r=.ok x q→(c1=true∨q<k)→Lc k c2 (f x q) (f' x q))(hend:c1=false→∀ x,r=.ok x k→∃ e,f x k=.bad k e):Lc k c2 (r.bind f) (r'.bind f'):=by
 cases r with
 |ok x q=>
  by_cases hc:c1=true∨q<k
  ·rw[h.ok x q (Eq.refl _) hc];exact hf x q (Eq.refl _) hc
  ·have hk:=hq x q (Eq.refl _)
   obtain rfl:q=k:=by
    have:¬q<k:=fun e=>hc (.inr e)
    omega
   have c1f:c1=false:=by cases c1 with
    |false=>exact Eq.refl _
    |true=>exact absurd (.inl (Eq.refl _)) hc
   obtain⟨e,he⟩:=hend c1f x (Eq.refl _);exact Lc.fin (e:=e) he
 |bad q e=>
  refine⟨fun _ _ h'=>by (cases h'),fun q' e' h' hk=>?_⟩;cases h';obtain⟨q2,e2,h2⟩:=h.bad q e (Eq.refl _) hk;rw[h2];exact⟨q2,e2,Eq.refl _⟩
theorem Lc.then{α β:Type}{k:Nat}{c2:Bool}{ts:List Tk}{p j:Nat}{r r':DR α}{f f':α→Nat→DR β}(hts:ts.length=k)(h:Lc k true r r')(ha:r.adv ts p j)(hf:∀ x q,r=.ok x q→p+j≤q→q≤k→Lc k c2 (f x q) (f' x q)):Lc k c2 (r.bind f) (r'.bind f'):=
 h.bind (fun x q e=>by rw[e]at ha;rw[←hts];exact ha.2) (fun x q e _=>by rw[e]at ha;exact hf x q e ha.1 (by rw[←hts];exact ha.2)) (fun e=>by cases e)
theorem isB_app{p:Nat}{s:List UInt8}(h:p<A.length):isB (A++B) p s=isB A p s:=by unfold isB;rw[Ba h]
theorem isB_end{s:List UInt8}:isB A A.length s=false:=by unfold isB;rw[Bq (BL _)]
theorem want_end(s:List UInt8):wantD A s A.length=.bad A.length 80:=by unfold wantD;rw[isB_end,if_neg (by decide)]
theorem word_end:wordD A A.length=.bad A.length 80:=by unfold wordD;rw[Bq (BL _)]
theorem kind_end:kindD A A.length=.bad A.length 80:=by unfold kindD;rw[Bq (BL _)]
theorem var_end:varD A A.length=.bad A.length 80:=by unfold varD;rw[isB_end,if_neg (by decide),word_end]
theorem split_le{p k:Nat}(h:p≤k):p<k∨p=k:=by omega
theorem want_lc(s:List UInt8){p:Nat}(hp:p≤A.length):Lc A.length true (wantD A s p) (wantD (A++B) s p):=by
 rcases split_le hp with h|rfl
 ·have:wantD (A++B) s p=wantD A s p:=by unfold wantD;rw[isB_app h]
  rw[this];exact Lc.rfl
 ·exact Lc.fin (want_end s)
theorem word_lc{p:Nat}(hp:p≤A.length):Lc A.length true (wordD A p) (wordD (A++B) p):=by
 rcases split_le hp with h|rfl
 ·have:wordD (A++B) p=wordD A p:=by unfold wordD;rw[Ba h]
  rw[this];exact Lc.rfl
 ·exact Lc.fin word_end
theorem kind_lc{p:Nat}(hp:p≤A.length):Lc A.length true (kindD A p) (kindD (A++B) p):=by
 rcases split_le hp with h|rfl
 ·have:kindD (A++B) p=kindD A p:=by unfold kindD;rw[Ba h]
  rw[this];exact Lc.rfl
 ·exact Lc.fin kind_end
theorem var_lc{p:Nat}(hp:p≤A.length):Lc A.length true (varD A p) (varD (A++B) p):=by
 rcases split_le hp with h|rfl
 ·have:varD (A++B) p=varD A p:=by unfold varD;rw[isB_app h];unfold wordD;rw[Ba h]
  rw[this];exact Lc.rfl
 ·exact Lc.fin var_end
theorem cutN_app{p:Nat}(hp:p≤A.length):(cutN A p<A.length∧cutN (A++B) p=cutN A p)∨(cutN A p=A.length∧∃ m,cutN (A++B) p=A.length+m):=by
 have hc:=cutN_le hp;unfold cutN stN at hc⊢;rw[drop_app2 hp,List.takeWhile_append];have hd:(A.drop p).length=A.length-p:=Bd
 split
 ·rename_i h
  right
  rw[hd]at h;refine⟨by omega,(B.takeWhile standB).length,?_⟩;rw[Bp,hd]
  omega
 ·rename_i h;rw[hd]at h
  left
  exact⟨by omega,Eq.refl _⟩
where drop_app2 {p:Nat} (hp:p≤A.length):(A++B).drop p=A.drop p++B:=List.drop_append_of_le_length hp
theorem limK_mono{n d n' d':Nat}(h:limK n d≠0)(h1:n≤n')(h2:d≤d'):limK n' d'≠0:=by
 unfold limK at h⊢
 split at h
 ·rw[if_pos (by omega)];decide
 ·split at h
  ·split
   ·decide
   ·rw[if_pos (by omega)];decide
  ·exact absurd rfl h
theorem expr_lc{p:Nat}(hp:p≤A.length):Lc A.length false (exprD A p) (exprD (A++B) p):=by
 rcases cutN_app (B:=B) hp with⟨h1,h2⟩|⟨h1,m,h2⟩
 ·have:readR (A++B) (p:Int)=readR A p:=by
   unfold readR;rw[if_neg (by rw[Bp];omega),if_neg (by omega)];simp only[Int.toNat_natCast];rw[h2,List.take_append_of_le_length (by omega)]
  unfold exprD;rw[this];exact Lc.rfl
 ·have e1:readR A (p:Int)=match readP A p with
   |.bad q=>([],(q:Int),50)
   |.ok t q=>if limK t.size t.deep=0 then (lay t 0,(q:Int),0)else ([],(p:Int),limK t.size t.deep):=by
   unfold readR;rw[if_neg (by omega)];simp only[Int.toNat_natCast];rw[h1,List.take_length]
   rfl
  have e2:readR (A++B) (p:Int)=match readP (A++B.take m) p with
   |.bad q=>([],(q:Int),50)
   |.ok t q=>if limK t.size t.deep=0 then (lay t 0,(q:Int),0)else ([],(p:Int),limK t.size t.deep):=by
   unfold readR;rw[if_neg (by rw[Bp];omega)];simp only[Int.toNat_natCast];rw[h2,List.take_append,Bt (by omega),show A.length+m-A.length=m by omega]
   rfl
  have hR:RelR A.length (readP A p) (readP (A++B.take m) p):=by
   have:=pr_loc A (B.take m) (16 * (A++B.take m).length+16) (.bin 1) p hp;rw[readP_fuel A hp (by rw[Bp];omega)]at this;exact this
  unfold exprD;rw[e1,e2];cases e3:readP A p with
  |bad q=>
   rw[e3]at hR;simp only[];rw[if_neg (by decide)];refine⟨fun _ _ h=>by (cases h),fun q' e' h hq=>?_⟩;cases h;rw[hR hq];simp only[];rw[if_neg (by decide)];exact⟨_,_,rfl⟩
  |ok t q=>
   rw[e3]at hR;simp only[]
   by_cases hk:limK t.size t.deep=0
   ·rw[if_pos hk];simp only[if_true];refine⟨fun x q' h hq=>?_,fun _ _ h=>by cases h⟩;cases h
    have hq:q<A.length:=by
     rcases hq with h|h
     ·cases h
     ·exact h
    rw[hR.1 hq];simp only[];rw[if_pos hk];simp only[if_true]
   ·rw[if_neg hk];simp only[];rw[if_neg hk];refine⟨fun _ _ h=>by (cases h),fun q' e' h hq=>?_⟩;cases e4:readP (A++B.take m) p with
    |bad r=>simp only[];rw[if_neg (by decide)];exact⟨_,_,rfl⟩
    |ok t' r=>
     have g:=hR.2 t' r e4;have:=limK_mono hk g.1 g.2;simp only[];rw[if_neg this];simp only[];rw[if_neg this];exact⟨_,_,rfl⟩
theorem pr_badge(ts:List Tk):∀ (f:Nat) (m:Md) (p q:Nat),p≤ts.length→pr ts f m p=.bad q→p≤q:=by
 intro f
 induction f with
 |zero=>intro m p q hp h;cases m<;>(cases h;exact BL _)
 |succ f ih=>
  intro m p q hp h;have adv:=pr_adv ts f;cases m with
  |bin n=>
   rw[pr]at h
   split at h
   ·exact ih _ _ _ hp h
   ·split at h
    ·rename_i e;cases h;exact ih _ _ _ hp e
    ·rename_i e;have a:=adv _ _ _ _ hp e;have:=ih _ _ _ a.2 h;have:=a.1.1;omega
  |lp n a=>
   rw[pr]at h
   split at h
   ·cases h
   ·rename_i hk;have hlt:=opK_lt (fun e=>hk (.inl e))
    split at h
    ·rename_i e;cases h;have:=ih _ _ _ (show p+1≤ts.length by omega) e;omega
    ·rename_i e
     split at h
     ·cases h
     ·have a:=adv _ _ _ _ (show p+1≤ts.length by omega) e;have:=ih _ _ _ a.2 h;have:=a.1.1;omega
  |un=>
   rw[pr]at h
   split at h
   ·rename_i hm;have hlt:p<ts.length:=hm.elim mkA_eq mkA_eq
    split at h
    ·rename_i e;cases h;have:=ih _ _ _ (show p+1≤ts.length by omega) e;omega
    ·cases h
   ·exact ih _ _ _ hp h
  |fs=>
   rw[pr]at h
   split at h
   ·rename_i hm;have hlt:p<ts.length:=mkA_eq hm
    split at h
    ·rename_i e;cases h;have:=ih _ _ _ (show p+1≤ts.length by omega) e;omega
    ·rename_i e
     split at h
     ·cases h
     ·cases h;have:=(adv _ _ _ _ (show p+1≤ts.length by omega) e).1.1;omega
   ·split at h
    ·cases h;exact BL _
    ·rename_i t e;have hlt:p<ts.length:=(Bs.1 e).1
     repeat' split at h
     all_goals first|(cases h;done)|(cases h;exact BL _)|(have:=ih _ _ _ (show p+1≤ts.length by omega) h;omega)
  |nm s=>
   rw[pr]at h
   split at h
   ·cases h
   split at h
   ·cases h
   split at h
   ·cases h
   split at h
   ·cases h;exact BL _
   rename_i hm;have hlt:p<ts.length:=mkA_eq (Decidable.not_not.1 hm)
   split at h
   ·rename_i e;cases h;have:=ih _ _ _ (show p+1≤ts.length by omega) e;omega
   rename_i e;have h1:=adv _ _ _ _ (show p+1≤ts.length by omega) e;have h10:=h1.1.1
   split at h
   ·split at h
    ·cases h;omega
    rename_i hm2;have hlt2:=mkA_eq (Decidable.not_not.1 hm2)
    split at h
    ·rename_i e2;cases h;have:=ih _ _ _ (show _+1≤ts.length by omega) e2;omega
    ·rename_i e2
     split at h
     ·cases h
     ·cases h;have:=(adv _ _ _ _ (show _+1≤ts.length by omega) e2).1.1;omega
   ·split at h
    ·cases h
    ·cases h;omega
theorem expr_end:∃ e,exprD A A.length=.bad A.length e:=by
 have ad:=expr_adv (ts:=A) (BL A.length);obtain⟨h1,h2,h3⟩:=readR_adv (ts:=A) (BL A.length);unfold exprD at ad⊢
 split at ad
 ·rename_i h;have:=ad.1;have:=ad.2
  omega
 ·rename_i h;refine⟨(readR A A.length).2.2,?_⟩;rw[if_neg h]
  congr 1
  unfold readR at h⊢;rw[if_neg (by omega)]at h⊢;simp only[Int.toNat_natCast]at h⊢;have hcut:A.take (cutN A A.length)=A:=by rw[Bt];unfold cutN;omega
  rw[hcut]at h⊢;cases e:readP A A.length with
  |bad q=>
   simp only[];have hq:=pr_badq A _ _ _ _ (BL _) e
   have hge:A.length≤q:=by
    exact pr_badge A _ _ _ _ (BL _) e
   omega
  |ok t q=>
   have:=(pr_adv A _ _ _ _ _ (BL _) e);obtain⟨⟨g1,_⟩,g2⟩:=this
   omega
theorem more_lc{α:Type}{I I':Nat→DR α}(hI:∀ p,p≤A.length→Lc A.length false (I p) (I' p))(hA:∀ p,p≤A.length→(I p).adv A p 1):∀ (f f':Nat) (l:List α) (p:Nat),p≤A.length→A.length<f+p→(A++B).length<f'+p→Lc A.length true (moreD A I f l p) (moreD (A++B) I' f' l p)
 |0,f',l,p,h1,h2,h3=>by omega
 |f+1,0,l,p,h1,h2,h3=>by rw[Bp]at h3;omega
 |f+1,f'+1,l,p,h1,h2,h3=>by
  rcases split_le h1 with h|rfl
  ·rw[moreD,moreD];simp only[isB_app h]
   split
   ·exact Lc.rfl
   split
   ·have ad:=hA (p+1) h;refine (hI (p+1) h).bind (fun x q e=>by rw[e]at ad;exact ad.2) (fun x q e _=>?_) (fun _ x e=>?_)
    ·rw[e]at ad;have:=ad.1;exact more_lc hI hA f f' _ q ad.2 (by omega) (by omega)
    ·rw[e]at ad;have:=ad.1;obtain⟨g,rfl⟩:∃ g,f=g+1:=⟨f-1,by omega⟩;refine⟨80,?_⟩;rw[moreD,isB_end,isB_end,if_neg (by decide),if_neg (by decide)]
   ·exact Lc.rfl
  ·refine Lc.fin (e:=80) ?_;rw[moreD,isB_end,isB_end,if_neg (by decide),if_neg (by decide)]
theorem list_lc{α:Type}{I I':Nat→DR α}(hI:∀ p,p≤A.length→Lc A.length false (I p) (I' p))(hA:∀ p,p≤A.length→(I p).adv A p 1)(hE:∃ e,I A.length=.bad A.length e){p:Nat}(hp:p≤A.length):Lc A.length true (listD A I p) (listD (A++B) I' p):=by
 unfold listD;refine (want_lc [40] hp).then rfl (want_adv hp _) fun _ p1 _ _ h1=>?_
 rcases split_le h1 with h|rfl
 ·rw[isB_app h]
  split
  ·exact Lc.rfl
  ·have ad:=hA p1 h1;refine (hI p1 h1).bind (fun x q e=>by rw[e]at ad;exact ad.2) (fun x q e _=>?_) (fun _ x e=>⟨80,?_⟩)
   ·rw[e]at ad;exact more_lc hI hA _ _ _ q ad.2 (by omega) (by omega)
   ·rw[moreD,isB_end,isB_end,if_neg (by decide),if_neg (by decide)]
 ·obtain⟨e,he⟩:=hE;refine Lc.fin (e:=e) ?_;rw[isB_end,if_neg (by decide),he]
  rfl
theorem args_lc{p:Nat}(hp:p≤A.length):Lc A.length true (argsD A p) (argsD (A++B) p):=list_lc (fun _ h=>expr_lc h) (fun _ h=>expr_adv h) expr_end hp
theorem tag_lc{p:Nat}(hp:p≤A.length):Lc A.length true (tagD A p) (tagD (A++B) p):=by
 unfold tagD;refine (word_lc hp).then rfl (word_adv hp) fun n p1 _ _ h1=>?_
 refine (list_lc (fun _ h=>(kind_lc h).opn) (fun _ h=>kind_adv h) ⟨80,kind_end⟩ h1).then rfl (list_adv (fun _=>kind_adv) h1) fun l p2 _ _ h2=>?_
 exact (want_lc [59] h2).then rfl (want_adv h2 _) fun _ p3 _ _ h3=>Lc.rfl
theorem part_lc{p:Nat}(hp:p≤A.length):Lc A.length true (partD A p) (partD (A++B) p):=by
 unfold partD;refine (word_lc hp).then rfl (word_adv hp) fun n p1 _ _ h1=>?_
 exact (list_lc (fun _ h=>(var_lc h).opn) (fun _ h=>var_adv h) ⟨80,var_end⟩ h1).then rfl (list_adv (fun _=>var_adv) h1) fun l p2 _ _ h2=>Lc.rfl
theorem act_end:actD A A.length=.bad A.length 80:=by
 unfold actD;simp only[isB_end];rw[if_neg (by decide),if_neg (by decide),if_neg (by decide),if_neg (by decide)]
theorem act_lc{p:Nat}(hp:p≤A.length):Lc A.length true (actD A p) (actD (A++B) p):=by
 rcases split_le hp with h|rfl
 ·unfold actD;simp only[isB_app h]
  split
  ·have ad:=expr_adv (ts:=A) (show p+1≤A.length from h);refine (expr_lc (show p+1≤A.length from h)).bind (fun x q e=>by rw[e]at ad;exact ad.2) (fun x q e _=>?_) (fun _ x e=>⟨80,?_⟩)
   ·rw[e]at ad;refine (word_lc ad.2).then rfl (word_adv ad.2) fun n p2 _ _ h2=>?_
    exact (args_lc h2).then rfl (args_adv h2) fun l p3 _ _ h3=>Lc.rfl
   ·rw[word_end];rfl
  split
  ·refine (word_lc (show p+1≤A.length from h)).then rfl (word_adv h) fun n p1 _ _ h1=>?_
   refine (want_lc kAs h1).then rfl (want_adv h1 _) fun _ p2 _ _ h2=>?_
   exact (word_lc h2).then rfl (word_adv h2) fun v p3 _ _ h3=>Lc.rfl
  split
  ·exact (args_lc (show p+1≤A.length from h)).then rfl (args_adv h) fun l p1 _ _ h1=>Lc.rfl
  split
  ·exact (word_lc (show p+1≤A.length from h)).then rfl (word_adv h) fun n p1 _ _ h1=>Lc.rfl
  ·exact Lc.rfl
 ·exact Lc.fin act_end
theorem acts_lc:∀ (f f':Nat) (l:List Ac) (p:Nat),p≤A.length→A.length<f+p→(A++B).length<f'+p→Lc A.length true (actsD A f l p) (actsD (A++B) f' l p)
 |0,f',l,p,h1,h2,h3=>by omega
 |f+1,0,l,p,h1,h2,h3=>by rw[Bp]at h3;omega
 |f+1,f'+1,l,p,h1,h2,h3=>by
  rcases split_le h1 with h|rfl
  ·rw[actsD,actsD];simp only[isB_app h]
   split
   ·exact Lc.rfl
   ·refine (act_lc h1).then rfl (act_adv h1) fun a p1 _ g1 g2=>?_
    refine (want_lc [59] g2).then rfl (want_adv g2 _) fun _ p2 _ g3 g4=>?_
    exact acts_lc f f' _ p2 g4 (by omega) (by omega)
  ·refine Lc.fin (e:=80) ?_;rw[actsD,isB_end,if_neg (by decide),act_end];rfl
theorem body_lc{p:Nat}(hp:p≤A.length):Lc A.length true (bodyD A p) (bodyD (A++B) p):=by
 unfold bodyD;exact (want_lc [123] hp).then rfl (want_adv hp _) fun _ p1 _ _ h1=>acts_lc _ _ _ p1 h1 (by omega) (by omega)
theorem body_end:bodyD A A.length=.bad A.length 80:=by unfold bodyD;rw[want_end];rfl
theorem parts_lc:∀ (f f':Nat) (l:List Pt) (p:Nat),p≤A.length→A.length<f+p→(A++B).length<f'+p→Lc A.length false (partsD A f l p) (partsD (A++B) f' l p)
 |0,f',l,p,h1,h2,h3=>by omega
 |f+1,0,l,p,h1,h2,h3=>by rw[Bp]at h3;omega
 |f+1,f'+1,l,p,h1,h2,h3=>by
  rcases split_le h1 with h|rfl
  ·rw[partsD,partsD];simp only[isB_app h]
   split
   ·refine (part_lc (show p+1≤A.length from h)).then rfl (part_adv h) fun a p1 _ g1 g2=>?_
    exact parts_lc f f' _ p1 g2 (by omega) (by omega)
   ·exact Lc.rfl
  ·rw[partsD,isB_end,if_neg (by decide)];exact⟨fun x q e hq=>by (cases e;rcases hq with hq|hq;cases hq;exact absurd hq (Nat.lt_irrefl _)),fun _ _ e=>by cases e⟩
theorem guard_lc{p:Nat}(hp:p≤A.length):Lc A.length false (guardD A p) (guardD (A++B) p):=by
 rcases split_le hp with h|rfl
 ·unfold guardD;simp only[isB_app h]
  split
  ·exact expr_lc h
  ·exact Lc.rfl
 ·unfold guardD;rw[isB_end,if_neg (by decide)];exact⟨fun x q e hq=>by (cases e;rcases hq with hq|hq;cases hq;exact absurd hq (Nat.lt_irrefl _)),fun _ _ e=>by cases e⟩
theorem chord_end:chordD A A.length=.bad A.length 80:=by unfold chordD;rw[want_end];rfl
theorem chord_lc{p:Nat}(hp:p≤A.length):Lc A.length true (chordD A p) (chordD (A++B) p):=by
 unfold chordD;refine (want_lc kChord hp).then rfl (want_adv hp _) fun _ p1 _ _ h1=>?_
 refine (word_lc h1).then rfl (word_adv h1) fun n p2 _ _ h2=>?_
 refine (want_lc [58] h2).then rfl (want_adv h2 _) fun _ p3 _ _ h3=>?_
 refine (part_lc h3).then rfl (part_adv h3) fun x p4 _ _ h4=>?_
 have a5:=parts_adv (ts:=A) (A.length+1) [x] p4 h4;refine (parts_lc (A.length+1) ((A++B).length+1) [x] p4 h4 (by omega) (by omega)).bind (fun l q e=>by rw[e]at a5;exact a5.2) (fun l p5 e _=>?_) (fun _ l e=>⟨80,?_⟩)
 ·rw[e]at a5;have a6:=guard_adv (ts:=A) a5.2;refine (guard_lc a5.2).bind (fun g q e=>by rw[e]at a6;exact a6.2) (fun g p6 e2 _=>?_) (fun _ g e2=>⟨80,?_⟩)
  ·rw[e2]at a6;exact (body_lc a6.2).then rfl (body_adv a6.2) fun b p7 _ _ h7=>Lc.rfl
  ·rw[body_end];rfl
 ·have:guardD A A.length=.ok [] A.length:=by unfold guardD;rw[isB_end,if_neg (by decide)]
  rw[this];show (bodyD A A.length).bind _=_;rw[body_end];rfl
theorem chords_lc:∀ (f f':Nat) (l:List Ch) (p:Nat),p≤A.length→A.length<f+p→(A++B).length<f'+p→Lc A.length true (chordsD A f l p) (chordsD (A++B) f' l p)
 |0,f',l,p,h1,h2,h3=>by omega
 |f+1,0,l,p,h1,h2,h3=>by rw[Bp]at h3;omega
 |f+1,f'+1,l,p,h1,h2,h3=>by
  rcases split_le h1 with h|rfl
  ·rw[chordsD,chordsD];simp only[isB_app h]
   split
   ·exact Lc.rfl
   ·refine (chord_lc h1).then rfl (chord_adv h1) fun a p1 _ g1 g2=>?_
    exact chords_lc f f' _ p1 g2 (by omega) (by omega)
  ·refine Lc.fin (e:=80) ?_;rw[chordsD,isB_end,if_neg (by decide),chord_end];rfl
theorem kind2_lc{p:Nat}(hp:p≤A.length):Lc A.length true (kindD2 A p) (kindD2 (A++B) p):=by
 unfold kindD2;refine (want_lc kKind hp).then rfl (want_adv hp _) fun _ p1 _ _ h1=>?_
 refine (word_lc h1).then rfl (word_adv h1) fun n p2 _ _ h2=>?_
 refine (want_lc [123] h2).then rfl (want_adv h2 _) fun _ p3 _ _ h3=>?_
 exact (chords_lc _ _ _ p3 h3 (by omega) (by omega)).then rfl (chords_adv _ _ _ h3) fun l p4 _ _ h4=>Lc.rfl
theorem prog_lc:∀ (f f':Nat) (g:Pg) (p:Nat),p≤A.length→A.length<f+p→(A++B).length<f'+p→
  (∀ x q,progD A f g p=.ok x q→q=A.length∧∃ f2,(A++B).length<f2+A.length∧progD (A++B) f' g p=progD (A++B) f2 x A.length)∧(∀ q e,progD A f g p=.bad q e→q<A.length→∃ q' e',progD (A++B) f' g p=.bad q' e')
 |0,f',g,p,h1,h2,h3=>by omega
 |f+1,0,g,p,h1,h2,h3=>by rw[Bp]at h3;omega
 |f+1,f'+1,g,p,h1,h2,h3=>by
  rcases split_le h1 with h|rfl
  ·rw[progD,progD,if_pos h,if_pos (show p<(A++B).length by rw[Bp];omega)];simp only[isB_app h]
   split
   ·have a1:=tag_adv (ts:=A) (show p+1≤A.length from h);have l1:=tag_lc (B:=B) (show p+1≤A.length from h);cases e:tagD A (p+1)with
    |bad q e1=>
     refine⟨fun x q' h=>by (cases h),fun q' e' h' hq=>?_⟩;cases h';obtain⟨q2,e2,h2⟩:=l1.bad q e1 e hq;rw[h2];exact⟨q2,e2,rfl⟩
    |ok x q=>
     rw[e]at a1;rw[l1.ok x q e (.inl rfl)];have:=a1.1;exact prog_lc f f' _ q a1.2 (by omega) (by omega)
   ·have a1:=kind2_adv (ts:=A) h1;have l1:=kind2_lc (B:=B) h1;cases e:kindD2 A p with
    |bad q e1=>
     refine⟨fun x q' h=>by (cases h),fun q' e' h' hq=>?_⟩;cases h';obtain⟨q2,e2,h2⟩:=l1.bad q e1 e hq;rw[h2];exact⟨q2,e2,rfl⟩
    |ok x q=>
     rw[e]at a1;rw[l1.ok x q e (.inl rfl)];have:=a1.1;exact prog_lc f f' _ q a1.2 (by omega) (by omega)
  ·rw[progD,if_neg (Nat.lt_irrefl _)];refine⟨fun x q e=>?_,fun q e h=>by cases h⟩;cases e;exact⟨rfl,f'+1,h3,rfl⟩
theorem spanEnd_uniq{q:Nat→Bool}{l:List UInt8}:∀ (k:Nat) {i m:Nat},m=i+k→m≤l.length→(∀ j,i≤j→j<m→q (atL l j)=true)→(m<l.length→q (atL l m)=false)→spanEnd q l i=m
 |0,i,m,e,_,_,hs=>by
  subst e;exact spanEnd_stop fun h=>hs h
 |k+1,i,m,e,hm,ha,hs=>by
  have hi:i<l.length:=by omega
  rw[spanEnd_step hi (ha i (BL _) (by omega))];exact spanEnd_uniq k (by omega) hm (fun j h1 h2=>ha j (by omega) h2) hs
theorem spanEnd_facts{q:Nat→Bool}{l:List UInt8}:∀ (k:Nat) {i:Nat},l.length-i=k→i≤l.length→(∀ j,i≤j→j<spanEnd q l i→q (atL l j)=true)∧(spanEnd q l i<l.length→q (atL l (spanEnd q l i))=false)
 |0,i,hk,hi=>by
  have e:spanEnd q l i=i:=spanEnd_stop fun h=>by omega
  rw[e];exact⟨fun j h1 h2=>by omega,fun h=>by omega⟩
 |k+1,i,hk,hi=>by
  by_cases hq:q (atL l i)=true
  ·have e:spanEnd q l i=spanEnd q l (i+1):=spanEnd_step (by omega) hq;obtain⟨h1,h2⟩:=spanEnd_facts (q:=q) (l:=l) k (i:=i+1) (by omega) (by omega);rw[e];refine⟨fun j g1 g2=>?_,h2⟩
   by_cases hj:j=i
   ·subst hj;exact hq
   ·exact h1 j (by omega) g2
  ·have hq':q (atL l i)=false:=by simpa using hq
   have e:spanEnd q l i=i:=spanEnd_stop fun h=>hq'
   rw[e];exact⟨fun j h1 h2=>by omega,fun _=>hq'⟩
theorem blank_cases{c:Nat}(h:blankN c=true):c=32∨c=9∨c=10∨c=13:=by unfold blankN at h;exact of_decide_eq_true h
theorem blank_digit(c:Nat)(h:blankN c=true):digitN c=false:=by rcases blank_cases h with rfl|rfl|rfl|rfl<;>rfl
theorem blank_name(c:Nat)(h:blankN c=true):nameN c=false:=by rcases blank_cases h with rfl|rfl|rfl|rfl<;>rfl
theorem hasSub_mem:∀ (l:List UInt8) (a c:UInt8),hasSub l [a,c]=true→c∈l
 |[],a,c,h=>by simp[hasSub]at h
 |b::l,a,c,h=>by
  rw[hasSub,Bool.or_eq_true]at h
  rcases h with h|h
  ·rw[List.isPrefixOf_iff_prefix]at h;obtain⟨r,hr⟩:=h;rw[←hr];simp
  ·exact List.mem_cons_of_mem _ (hasSub_mem l a c h)
theorem sub_blank{s:List UInt8}(h1:1<s.length)(hb:blankN (atL s 1)=true)(h32:atL s 1≠32):hasSub dblL (s.take 2)=false:=by
 match s,h1 with
 |a::c::r,_=>
  cases e:hasSub dblL ((a::c::r).take 2)with
  |false=>rfl
  |true=>
   have hm:=hasSub_mem dblL a c (by simpa using e);have ec:atL (a::c::r) 1=c.toNat:=rfl;rw[ec]at hb h32
   exfalso
   have hall:∀ x∈dblL,blankN x.toNat=true→x.toNat=32:=by decide
   exact h32 (hall c hm hb)
structure Loc(s s':List UInt8)(n:Nat):Prop where
 le:n≤s.length
 le':n≤s'.length
 tk:s'.take n=s.take n
 nx:(n<s.length∧n<s'.length∧s'.take (n+1)=s.take (n+1))∨s'.length=n∨blankN (atL s' n)=true
theorem atL_tk{s s':List UInt8}{n i:Nat}(h:s'.take n=s.take n)(hi:i<n):atL s' i=atL s i:=by
 have e:(s'.take n)[i]?=(s.take n)[i]?:=by rw[h]
 rw[BY,BY,if_pos hi,if_pos hi]at e;unfold atL;rw[List.getD_eq_getElem?_getD,List.getD_eq_getElem?_getD,e]
theorem take_le{s s':List UInt8}{n m:Nat}(h:s'.take n=s.take n)(hm:m≤n):s'.take m=s.take m:=by
 have:=congrArg (List.take m) h
 rwa [List.take_take,List.take_take,Nat.min_eq_left hm]at this
theorem Loc.at{s s':List UInt8}{n i:Nat}(h:Loc s s' n)(hi:i<n):atL s' i=atL s i:=atL_tk h.tk hi
theorem Loc.stop{s s':List UInt8}{n:Nat}(h:Loc s s' n){q:Nat→Bool}(hq:∀ c,blankN c=true→q c=false)(hs:n<s.length→q (atL s n)=false):n<s'.length→q (atL s' n)=false:=by
 intro hn
 rcases h.nx with⟨h1,h2,h3⟩|h1|h1
 ·rw[atL_tk h3 (by omega)];exact hs h1
 ·omega
 ·exact hq _ h1
theorem Loc.span{s s':List UInt8}{n i:Nat}(h:Loc s s' n){q:Nat→Bool}(hq:∀ c,blankN c=true→q c=false)(hi:i≤n)(hm:spanEnd q s i≤n):spanEnd q s' i=spanEnd q s i:=by
 have hle:=h.le;have hle':=h.le';obtain⟨h1,h2⟩:=spanEnd_facts (q:=q) (l:=s) _ (i:=i) rfl (by omega);have h3:=spanEnd_ge q s i;refine spanEnd_uniq (spanEnd q s i-i) (by omega) (by omega) (fun j g1 g2=>?_) ?_
 ·rw[h.at (by omega)];exact h1 j g1 g2
 ·by_cases he:spanEnd q s i=n
  ·rw[he];rw[he]at h2;exact h.stop hq h2
  ·intro _;rw[h.at (by omega)];exact h2 (by omega)
theorem Loc.num{s s':List UInt8}{n i:Nat}(h:Loc s s' n)(hi:i≤n)(hm:digitsEnd s i≤n):digitsEnd s' i=digitsEnd s i∧numL s' i=numL s i:=by
 have e:digitsEnd s' i=digitsEnd s i:=h.span (q:=digitN) blank_digit hi hm;refine⟨e,?_⟩;have hge:=digitsEnd_ge s i;unfold numL;rw[e,←List.drop_take,←List.drop_take,take_le h.tk (by omega)]
theorem Loc.name{s s':List UInt8}{n:Nat}(h:Loc s s' n)(hn:nameN (atL s n)=false):nameN (atL s' n)=false:=by
 by_cases hl:n<s'.length
 ·exact h.stop (q:=nameN) blank_name (fun _=>hn) hl
 ·have:atL s' n=0:=by unfold atL;rw[List.getD_eq_getElem?_getD,Bq (by omega)];rfl
  rw[this];decide
theorem realO_follow{sg:Nat}{a b:List UInt8}{f g:Nat}(h:realO sg a b f=true)(hg:nameN g=false):realO sg a b g=true∧nameN f=false:=by
 unfold realO at h⊢;simp only[Bool.and_eq_true,Bool.not_eq_true']at h⊢;obtain⟨⟨⟨⟨⟨h1,h2⟩,h3⟩,h4⟩,h5⟩,h6⟩:=h;exact⟨⟨⟨⟨⟨⟨h1,h2⟩,h3⟩,h4⟩,hg⟩,h6⟩,h5⟩
theorem realO_name{sg:Nat}{a b:List UInt8}{f:Nat}(h:realO sg a b f=true):nameN f=false:=by
 unfold realO at h;simp only[Bool.and_eq_true,Bool.not_eq_true']at h;exact h.1.2
theorem numberD_loc{s s':List UInt8}{t:TokD}(hd:digitN (atL s 0)=true)(h:numberD s=.ok t)(hL:Loc s s' t.size):numberD s'=.ok t:=by
 have hlt:=digitsEnd_lt hd;unfold numberD at h
 split at h
 ·rename_i hc;unfold realD at h
  split at h
  ·rename_i hr;cases h;have hlt2:digitsEnd s 0+1+sgOf s<digitsEnd s (digitsEnd s 0+1+sgOf s):=digitsEnd_lt hc.2;have hL':Loc s s' (digitsEnd s (digitsEnd s 0+1+sgOf s)):=hL;obtain⟨e1,e2⟩:=hL'.num (i:=0) (by omega) (by omega)
   have hsg:sgOf s'=sgOf s:=by
    unfold sgOf;rw[e1,hL'.at (i:=digitsEnd s 0) (by omega),hL'.at (i:=digitsEnd s 0+1) (by omega)]
   obtain⟨e3,e4⟩:=hL'.num (i:=digitsEnd s 0+1+sgOf s) (by omega) (BL _);unfold numberD;rw[hsg,e1,hL'.at (i:=digitsEnd s 0) (by omega),hL'.at (i:=digitsEnd s 0+1+sgOf s) (by omega),if_pos hc];unfold realD;rw[e2,e3,e4,if_pos (realO_follow hr (hL'.name (realO_name hr))).1]
  ·cases h
 ·rename_i hc
  split at h
  ·rename_i hr;cases h;have hL':Loc s s' (digitsEnd s 0):=hL;obtain⟨e1,e2⟩:=hL'.num (i:=0) (by omega) (BL _);have hnm:=hL'.name hr.2;unfold numberD;rw[e1,e2,if_neg,if_pos ⟨hr.1,hnm⟩]
   rintro⟨g1,_⟩
   rw[g1]at hnm
   revert hnm;decide
  ·cases h
theorem escF_loc{s s':List UInt8}{n i:Nat}(hL:Loc s s' n)(h0:(escF (s.drop i)).2≠0)(hn:i+(escF (s.drop i)).2≤n):escF (s'.drop i)=escF (s.drop i):=by
 have ea:∀ (l:List UInt8) j,atL (l.drop i) j=atL l (i+j):=fun l j=>by
  unfold atL;simp only[List.getD_eq_getElem?_getD,BX]
 unfold escF at h0 hn⊢;simp only[ea,Bd]at h0 hn⊢;have hle:=hL.le;have hle':=hL.le'
 split at h0
 ·rename_i h1;rw[if_pos h1]at hn;simp only at hn;rw[hL.at (i:=i+1) (by omega),if_pos h1,if_pos h1]
 ·rename_i h1
  split at h0
  ·rename_i h2;rw[if_neg h1,if_pos h2]at hn;simp only at hn;rw[hL.at (i:=i+1) (by omega),hL.at (i:=i+2) (by omega),hL.at (i:=i+3) (by omega),if_neg h1,if_pos h2,if_neg h1,if_pos ⟨h2.1,by omega,h2.2.2⟩]
  ·exact absurd rfl h0
theorem textF_loc{s s':List UInt8}{n:Nat}(hL:Loc s s' n):∀ (k k' i:Nat) (d q:List UInt8),textF k s i d=some (q,n)→n≤k'+i→textF k' s' i d=some (q,n)
 |0,_,_,_,_,h,_=>by cases h
 |k+1,k',i,d,q,h,hk=>by
  obtain⟨hs1,hs2⟩:=textF_size s (k+1) i d q n h;have hle':=hL.le';cases k' with
  |zero=>omega
  |succ k'=>
   rw[textF]at h⊢;rw[if_neg (by omega)]at h⊢;rw[hL.at (i:=i) (by omega)]
   split at h
   ·rename_i h1;rw[if_pos h1];exact h
   ·rename_i h1;rw[if_neg h1]
    split at h
    ·rename_i h2;rw[if_pos h2]
     split at h
     ·cases h
     ·rename_i h3;have hz:=textF_size s k _ _ q n h;have ee:=escF_loc hL (i:=i) h3 (by omega);rw[ee,if_neg h3];exact textF_loc hL k k' _ _ q h (by omega)
    ·rename_i h2;rw[if_neg h2]
     split at h
     ·cases h
     ·rename_i h3;rw[if_neg h3];exact textF_loc hL k k' _ _ q h (by omega)
theorem textD_loc{s s':List UInt8}{t:TokD}(h:textD s=.ok t)(hL:Loc s s' t.size):textD s'=.ok t:=by
 unfold textD at h
 split at h
 ·cases h
 ·rename_i d n hq;cases h;have hL':Loc s s' n:=hL;have:=textF_loc hL' _ s'.length 1 [] d hq (by have:=hL'.le';omega);unfold textD;rw[this]
theorem take2_eq{s s':List UInt8}(h:s'.take 2=s.take 2)(h1:2≤s.length)(h2:2≤s'.length):markN s'=markN s:=by
 unfold markN;have e0:atL s' 0=atL s 0:=atL_tk h (by omega);have e1:atL s' 1=atL s 1:=atL_tk h (by omega);have l1:1<s.length:=by omega
 have l2:1<s'.length:=by omega
 rw[h,e0,e1];simp only[l1,l2,true_and]
theorem markN_loc{s s':List UInt8}(h0:markN s≠0)(hL:Loc s s' (markN s)):markN s'=markN s:=by
 have hle:=hL.le;have hle':=hL.le'
 by_cases h2:markN s=2
 ·rw[h2]at hL hle hle';exact take2_eq hL.tk hle hle'
 ·have h1:markN s=1:=by
   unfold markN at h0 h2⊢
   split
   ·rename_i h;rw[if_pos h]at h2;exact absurd rfl h2
   ·rename_i h;rw[if_neg h]at h0;split
    ·rfl
    ·rename_i h';rw[if_neg h']at h0;exact absurd rfl h0
  rw[h1]at hL hle hle'
  rcases hL.nx with⟨g1,g2,g3⟩|g1|g1
  ·exact take2_eq g3 (by omega) (by omega)
  ·have hs:0≤Lib.indexByte sglL (atL s 0).toUInt8:=by
    unfold markN at h1
    split at h1
    ·cases h1
    ·split at h1
     ·rename_i h;exact h
     ·cases h1
   rw[h1];unfold markN;rw[if_neg (by rintro⟨q,_⟩;omega),hL.at (i:=0) (by omega),if_pos hs]
  ·have hs:0≤Lib.indexByte sglL (atL s 0).toUInt8:=by
    unfold markN at h1
    split at h1
    ·cases h1
    ·split at h1
     ·rename_i h;exact h
     ·cases h1
   rw[h1];unfold markN;rw[if_neg (by rintro⟨q0,_,q,q4⟩;rw[sub_blank q0 g1 q]at q4;cases q4),hL.at (i:=0) (by omega),if_pos hs]
theorem headD_loc{s s':List UInt8}{t:TokD}(h:headD s=.ok t)(h1:1≤t.size)(hL:Loc s s' t.size):headD s'=.ok t:=by
 have e0:atL s' 0=atL s 0:=hL.at (by omega);unfold headD at h⊢;rw[e0]
 split at h
 ·rename_i hl;rw[if_pos hl]
  split at h
  ·cases h
  ·rename_i h32;cases h;have hL':Loc s s' (spanEnd nameN s 1):=hL;have hge:=spanEnd_ge nameN s 1;have e:=hL'.span (q:=nameN) blank_name hge (BL _);rw[e,if_neg h32,hL'.tk]
 ·rename_i hl;rw[if_neg hl]
  split at h
  ·rename_i hd;rw[if_pos hd];exact numberD_loc hd h hL
  ·rename_i hd;rw[if_neg hd]
   split at h
   ·rename_i ht;rw[if_pos ht];exact textD_loc h hL
   ·rename_i ht;rw[if_neg ht]
    split at h
    ·cases h
    ·rename_i hm;cases h;have hL':Loc s s' (markN s):=hL;have e:=markN_loc hm hL';rw[e,if_neg hm,hL'.tk]
def Pre(l:List UInt8):Nat→List (TokD×Nat)→Nat→Prop
 |i,[],j=>i=j
 |i,x::T,j=>x.2=nextT l i∧x.2<l.length∧headD (l.drop x.2)=.ok x.1∧Pre l (x.2+x.1.size) T j
theorem head_size2{l:List UInt8}{p:Nat}{t:TokD}(hp:p<l.length)(h:headD (l.drop p)=.ok t):1≤t.size∧p+t.size≤l.length:=by
 have:=headD_size (l:=l.drop p) (by rw[Bd];omega) h;rw[Bd]at this
 omega
theorem Pre.le{l:List UInt8}:∀ {T:List (TokD×Nat)} {i j:Nat},i≤l.length→Pre l i T j→i+T.length≤j∧j≤l.length
 |[],i,j,hi,h=>by have h:i=j:=h;subst h;exact⟨BL _,hi⟩
 |x::T,i,j,hi,h=>by
  obtain⟨h1,h2,h3,h4⟩:=h;obtain⟨s1,s2⟩:=head_size2 h2 h3;have:=Pre.le s2 h4;have:=nextT_ge l i;rw[BC]
  omega
theorem Pre.items{l:List UInt8}:∀ {T:List (TokD×Nat)} {i j f:Nat},Pre l i T j→itemsF (f+T.length) l i=T.map okI++itemsF f l j
 |[],i,j,f,h=>by have h:i=j:=h;subst h;rfl
 |x::T,i,j,f,h=>by
  obtain⟨h1,h2,h3,h4⟩:=h;rw[BC,←Nat.add_assoc,itemsF,←h1,if_neg (by omega),h3];show ((x.1,x.2),(0:Int))::itemsF (f+T.length) l (x.2+x.1.size)=_;rw[Pre.items h4]
  rfl
theorem items_pre(l:List UInt8):∀ (f i:Nat),i≤l.length→l.length+1≤f+i→∃ T j,Pre l i T j∧
  ((l.length≤nextT l j∧itemsF f l i=T.map okI)∨∃ e,nextT l j<l.length∧headD (l.drop (nextT l j))=.error e∧itemsF f l i=T.map okI++[((zeroT,nextT l j),e)])
 |0,i,h1,h2=>by omega
 |f+1,i,h1,h2=>by
  have hge:=nextT_ge l i;rw[itemsF]
  split
  ·rename_i h;exact⟨[],i,rfl,.inl ⟨h,rfl⟩⟩
  ·rename_i h
   split
   ·rename_i e he;exact⟨[],i,rfl,.inr ⟨e,by omega,he,rfl⟩⟩
   ·rename_i t ht;obtain⟨s1,s2⟩:=head_size2 (by omega) ht;obtain⟨T,j,hp,hc⟩:=items_pre l f (nextT l i+t.size) s2 (by omega);refine⟨(t,nextT l i)::T,j,⟨rfl,by show nextT l i<_;omega,ht,hp⟩,?_⟩
    rcases hc with⟨c1,c2⟩|⟨e,c1,c2,c3⟩
    ·exact .inl ⟨c1,by rw[c2];rfl⟩
    ·exact .inr ⟨e,c1,c2,by rw[c3];rfl⟩
theorem find_ok(T:List (TokD×Nat)):(T.map okI).find? badI=none:=by
 rw[List.find?_eq_none];intro x hx;obtain⟨y,_,rfl⟩:=List.mem_map.1 hx;rw[okI_not]
 decide
theorem find_bad(T:List (TokD×Nat))(x:(TokD×Nat)×Int)(hx:x.2≠0):(T.map okI++[x]).find? badI=some x:=by
 rw[List.find?_append,find_ok];have:badI x=true:=by unfold badI;exact decide_eq_true hx
 simp[this]
theorem map_okI(T:List (TokD×Nat)):(T.map okI).map (fun x=>x.1)=T:=by
 rw[List.map_map];exact List.map_id T
theorem toks_cases(l:List UInt8):(32768<l.length∧okToks l=none∧(eachItems l).find? badI=some ((zeroT,0),3))∨
  (l.length≤32768∧∃ T j,Pre l 0 T j∧l.length≤nextT l j∧okToks l=some T)∨
  (l.length≤32768∧∃ T j e,Pre l 0 T j∧nextT l j<l.length∧headD (l.drop (nextT l j))=.error e∧okToks l=none∧(eachItems l).find? badI=some ((zeroT,nextT l j),e)):=by
 by_cases hb:32768<l.length
 ·have h:(eachItems l).find? badI=some ((zeroT,0),3):=by unfold eachItems;rw[if_pos hb];rfl
  exact .inl ⟨hb,by unfold okToks;rw[h],h⟩
 ·have hi:eachItems l=itemsF (l.length+1) l 0:=by unfold eachItems;rw[if_neg hb]
  obtain⟨T,j,hp,hc⟩:=items_pre l (l.length+1) 0 (BN _) (by omega)
  rcases hc with⟨c1,c2⟩|⟨e,c1,c2,c3⟩
  ·exact .inr (.inl ⟨by omega,T,j,hp,c1,by unfold okToks;rw[hi,c2,find_ok];simp only[map_okI]⟩)
  ·have h:(eachItems l).find? badI=some ((zeroT,nextT l j),e):=by rw[hi,c3,find_bad _ _ (headD_err c2)]
   exact .inr (.inr ⟨by omega,T,j,e,hp,c1,c2,by unfold okToks;rw[h],h⟩)
theorem okToks_of{l:List UInt8}{T:List (TokD×Nat)}{j:Nat}(hl:l.length≤32768)(hp:Pre l 0 T j)(hj:l.length≤nextT l j):okToks l=some T:=by
 have hi:eachItems l=itemsF (l.length+1) l 0:=by unfold eachItems;rw[if_neg (by omega)]
 obtain⟨h1,h2⟩:=Pre.le (BN _) hp
 have e:itemsF (l.length+1) l 0=T.map okI:=by
  have:=hp.items (f:=l.length+1-T.length);rw[show l.length+1-T.length+T.length=l.length+1 by omega]at this;rw[this];obtain⟨g,hg⟩:∃ g,l.length+1-T.length=g+1:=⟨l.length-T.length,by omega⟩;rw[hg,itemsF,if_pos hj,BS]
 unfold okToks;rw[hi,e,find_ok];simp only[map_okI]
def GapG(g:List UInt8):Prop:=(∀ s,gapL false (g++s)=g.length+gapL false s)∧∃ c r,g=c::r∧blankN c.toNat=true
theorem gapG1:GapG [32]:=⟨fun s=>by rw[Bc,Bi,gapL,if_pos (by decide)];rfl,_,_,rfl,by decide⟩
theorem gapG2:GapG [9,10]:=⟨fun s=>by rw[Bc,Bc,Bi,gapL,if_pos (by decide),gapL,if_pos (by decide)];simp only[BC,BD];omega,_,_,rfl,by decide⟩
def comL:List UInt8:=[32,35,32,115,111,32,105,116,32,105,115,10]
theorem gapG3:GapG comL:=by
 refine⟨fun s=>?_,_,_,rfl,by decide⟩;have t:∀ (c:UInt8) r,c.toNat≠10→gapL true (c::r)=1+gapL true r:=fun c r h=>by rw[gapL,if_neg h]
 show gapL false (32::35::32::115::111::32::105::116::32::105::115::10::s)=12+gapL false s
 rw[gapL,if_pos (by decide),gapL,if_neg (by decide),if_pos (by decide),t _ _ (by decide),t _ _ (by decide),t _ _ (by decide),t _ _ (by decide),t _ _ (by decide),t _ _ (by decide),t _ _ (by decide),t _ _ (by decide),t _ _ (by decide),gapL,if_pos (by decide)]
 omega
def otherF(l:List UInt8)(g:Nat→List UInt8):Nat→List (TokD×Nat)→List UInt8
 |_,[]=>[]
 |k,x::T=>g k++((l.drop x.2).take x.1.size++otherF l g (k+1) T)
theorem otherF_app(l:List UInt8)(g:Nat→List UInt8):∀ (T T':List (TokD×Nat)) (k:Nat),otherF l g k (T++T')=otherF l g k T++otherF l g (k+T.length) T'
 |[],T',k=>rfl
 |x::T,T',k=>by
  rw[Bc,otherF,otherF,otherF_app l g T T' (k+1),BC,show k+1+T.length=k+(T.length+1)by omega];simp only[Bo]
theorem gapL_stop2:∀ (s:List UInt8) (c:Bool),gapL c s<s.length→blankN (atL s (gapL c s))=false∧atL s (gapL c s)≠35
 |[],c,h=>by cases c<;>simp[gapL]at h
 |x::r,true,h=>by
  have ac:∀ i,atL (x::r) (1+i)=atL r i:=fun i=>by unfold atL;rw[Nat.add_comm];simp
  rw[gapL]at h⊢
  split at h
  ·rename_i hx;rw[if_pos hx,ac];exact gapL_stop2 r false (by simp only[BC]at h;omega)
  ·rename_i hx;rw[if_neg hx,ac];exact gapL_stop2 r true (by simp only[BC]at h;omega)
 |x::r,false,h=>by
  have ac:∀ i,atL (x::r) (1+i)=atL r i:=fun i=>by unfold atL;rw[Nat.add_comm];simp
  rw[gapL]at h⊢
  split at h
  ·rename_i hx;rw[if_pos hx,ac];exact gapL_stop2 r false (by simp only[BC]at h;omega)
  ·rename_i hx;rw[if_neg hx]
   split at h
   ·rename_i hy;rw[if_pos hy,ac];exact gapL_stop2 r true (by simp only[BC]at h;omega)
   ·rename_i hy;rw[if_neg hy];exact⟨by simpa[atL]using hx,by simpa[atL]using hy⟩
theorem token_first2{l:List UInt8}{i:Nat}(h:nextT l i<l.length):blankN (atL (l.drop (nextT l i)) 0)=false∧atL (l.drop (nextT l i)) 0≠35:=by
 have hlt:gapL false (l.drop i)<(l.drop i).length:=by rw[Bd];unfold nextT at h;omega
 have:=gapL_stop2 _ _ hlt
 have e:atL (l.drop (nextT l i)) 0=atL (l.drop i) (gapL false (l.drop i)):=by
  unfold atL nextT;simp[BX]
 rw[e];exact this
theorem other_head{l:List UInt8}{g:Nat→List UInt8}(hg:∀ k,GapG (g k))(k:Nat)(T:List (TokD×Nat)):otherF l g k T=[]∨∃ c r,otherF l g k T=c::r∧blankN c.toNat=true:=by
 cases T with
 |nil=>exact .inl rfl
 |cons x T=>
  obtain⟨_,c,r,e,hc⟩:=hg k;refine .inr ⟨c,r++((l.drop x.2).take x.1.size++otherF l g (k+1) T),?_,hc⟩;rw[otherF,e,Bc]
theorem other_pre{l:List UInt8}{g:Nat→List UInt8}(hg:∀ k,GapG (g k)):∀ (T:List (TokD×Nat)) (k i j:Nat) (c:List UInt8),i≤l.length→Pre l i T j→
  ∃ T',Pre (c++otherF l g k T) c.length T' (c++otherF l g k T).length∧T'.map (fun x=>x.1)=T.map (fun x=>x.1)
 |[],k,i,j,c,hi,h=>⟨[],by show c.length=_;rw[otherF,BS],rfl⟩
 |x::T,k,i,j,c,hi,h=>by
  obtain⟨h1,h2,h3,h4⟩:=h;obtain⟨s1,s2⟩:=head_size2 h2 h3;obtain⟨p,hp⟩:∃ p,p=(l.drop x.2).take x.1.size:=⟨_,rfl⟩;obtain⟨rest,hr⟩:∃ r,r=otherF l g (k+1) T:=⟨_,rfl⟩;have hlen:p.length=x.1.size:=by rw[hp,Bh,Bd];omega
  have tf:=token_first2 (l:=l) (i:=i) (by omega);rw[←h1]at tf
  have ha:∀ s:List UInt8,atL (p++s) 0=atL (l.drop x.2) 0:=fun s=>by
   refine atL_tk (n:=x.1.size) ?_ (by omega);rw[List.take_append_of_le_length (by omega),hp,List.take_take,Nat.min_self]
  have hgap:gapL false (p++rest)=0:=by
   have:=gap_stop (l:=p++rest) (i:=0) (by rw[Bp];omega) (by rw[ha];exact tf.1) (by rw[ha];exact tf.2)
   rwa [List.drop_zero]at this
  have hhead:headD (p++rest)=.ok x.1:=by
   refine headD_loc h3 s1 ⟨by rw[Bd];omega,by rw[Bp];omega,by rw[List.take_append_of_le_length (by omega),hp,List.take_take,Nat.min_self],?_⟩
   rcases other_head hg (k+1) T with e|⟨b,r,e,hb⟩
   ·rw[←hr]at e;rw[e,BS];exact .inr (.inl hlen)
   ·rw[←hr]at e;refine .inr (.inr ?_);have:atL (p++rest) x.1.size=b.toNat:=by unfold atL;rw[e,List.getD_eq_getElem?_getD,Br (by omega),hlen,Nat.sub_self];rfl
    rw[this];exact hb
  obtain⟨T',q1,q2⟩:=other_pre hg T (k+1) _ j (c++g k++p) s2 h4
  have hn:nextT (c++(g k++(p++rest))) c.length=(c++g k).length:=by
   unfold nextT;rw[List.drop_left' rfl,(hg k).1,hgap,Bp]
   omega
  have e0:otherF l g k (x::T)=g k++(p++rest):=by rw[otherF,hp,hr]
  rw[e0];have e1:c++(g k++(p++rest))=c++g k++p++rest:=by simp only[Bo]
  rw[←hr]at q1;refine⟨(x.1,(c++g k).length)::T',⟨hn.symm,?_,?_,?_⟩,?_⟩
  ·show (c++g k).length<_
   rw[e1];simp only[Bp];omega
  ·show headD ((c++(g k++(p++rest))).drop (c++g k).length)=_
   rw[show c++(g k++(p++rest))=(c++g k)++(p++rest)by simp only[Bo],List.drop_left' rfl];exact hhead
  ·show Pre (c++(g k++(p++rest))) ((c++g k).length+x.1.size) T' _
   rw[e1,show (c++g k).length+x.1.size=(c++g k++p).length by simp only[Bp,hlen]];exact q1
  ·rw[BA,BA,q2]
theorem other_toks{l:List UInt8}{g:Nat→List UInt8}(hg:∀ k,GapG (g k)){T:List (TokD×Nat)}(h:okToks l=some T)(hl:(otherF l g 0 T).length≤32768):
  ∃ T',okToks (otherF l g 0 T)=some T'∧T'.map (fun x=>x.1)=T.map (fun x=>x.1):=by
 rcases toks_cases l with⟨_,e,_⟩|⟨_,T1,j,hp,hn,e⟩|⟨_,T1,j,er,_,_,_,e,_⟩
 ·rw[e]at h;cases h
 ·rw[e]at h;cases h;obtain⟨T',q1,q2⟩:=other_pre hg T 0 0 j [] (BN _) hp;rw[Bi]at q1;exact⟨T',okToks_of hl q1 (nextT_ge _ _),q2⟩
 ·rw[e]at h;cases h
theorem progR_end{ts:List Tk}{x:Pg}{q:Nat}(h:progR ts=.ok x q):q=ts.length:=((prog_lc (A:=ts) (B:=[]) (ts.length+1) ((ts++[]).length+1) zPg 0 (BN _) (by omega) (by omega)).1 x q h).1
theorem progR_np(ts:List Tk):progR (ts.map np)=progR ts:=by
 unfold progR;rw[progD_np,Bk]
theorem readO_none{α:Type}{z:α}{D:List Tk→DR α}{l:List UInt8}{x:(TokD×Nat)×Int}(h:okToks l=none)(hx:(eachItems l).find? badI=some x):readO z D l=(z,(x.1.2:Int),x.2):=by
 unfold readO;rw[h];simp only[];rw[hx]
theorem readO_bad{α:Type}{z:α}{D:List Tk→DR α}{l:List UInt8}{T:List (TokD×Nat)}{q:Nat}{e:Int}(h:okToks l=some T)(hd:D (T.map tkOf)=.bad q e):readO z D l=(z,plO (T.map tkOf) l.length q,e):=by
 unfold readO;rw[h];simp only[];rw[hd]
theorem progO_ok{l:List UInt8}{T:List (TokD×Nat)}{x:Pg}{q:Nat}(h:okToks l=some T)(hd:progR (T.map tkOf)=.ok x q):progO l=(x,0,0):=by
 have:=progR_end hd;rw[Bk]at this;unfold progO readO;rw[h];simp only[];rw[hd];simp only[];rw[if_neg (by omega)]
theorem noToks_find{l:List UInt8}(h:okToks l=none):∃ x,(eachItems l).find? badI=some x∧x.2≠0∧x.1.2≤l.length:=by
 rcases toks_cases l with⟨_,_,e⟩|⟨_,T,j,_,_,e⟩|⟨_,T,j,er,_,hn,he,_,e⟩
 ·exact⟨_,e,by decide,BN _⟩
 ·rw[e]at h;cases h
 ·exact⟨_,e,headD_err he,Nat.le_of_lt hn⟩
theorem pre_pos{l:List UInt8}:∀ {T:List (TokD×Nat)} {i j:Nat},Pre l i T j→∀ x∈T,x.2<l.length
 |[],i,j,h,x,hx=>by cases hx
 |y::T,i,j,h,x,hx=>by
  rcases BI.1 hx with rfl|hx
  ·exact h.2.1
  ·exact pre_pos h.2.2.2 x hx
theorem toks_pos{l:List UInt8}{T:List (TokD×Nat)}(h:okToks l=some T):∀ x∈T,x.2<l.length:=by
 rcases toks_cases l with⟨_,e,_⟩|⟨_,T1,j,hp,_,e⟩|⟨_,T1,j,er,_,_,_,e,_⟩
 ·rw[e]at h;cases h
 ·rw[e]at h;cases h;exact pre_pos hp
 ·rw[e]at h;cases h
theorem blanks_none{l:List UInt8}(h:okToks l=none):(progO l).2.2≠0:=by
 obtain⟨x,hx,h0,_⟩:=noToks_find h;have e:progO l=_:=readO_none h hx;rw[e];exact h0
theorem blanks_same{l:List UInt8}{g:Nat→List UInt8}(hg:∀ k,GapG (g k)){T:List (TokD×Nat)}(h:okToks l=some T)(hl:(otherF l g 0 T).length≤32768):
  (progO (otherF l g 0 T)).1=(progO l).1∧(progO (otherF l g 0 T)).2.2=(progO l).2.2:=by
 obtain⟨T',h',hT⟩:=other_toks hg h hl
 have hnp:(T'.map tkOf).map np=(T.map tkOf).map np:=by
  have e:∀ T:List (TokD×Nat),(T.map tkOf).map np=(T.map fun x=>x.1).map fun d=>np (tkOf (d,0)):=fun T=>by
   rw[List.map_map,List.map_map];rfl
  rw[e,e,hT]
 have hp:progR (T'.map tkOf)=progR (T.map tkOf):=by rw[←progR_np,hnp,progR_np]
 cases hd:progR (T.map tkOf)with
 |ok x q=>
  rw[progO_ok h hd,progO_ok h' (hp.trans hd)];exact⟨rfl,rfl⟩
 |bad q e=>
  have e1:progO l=_:=readO_bad h hd;have e2:progO (otherF l g 0 T)=_:=readO_bad h' (hp.trans hd);rw[e1,e2];exact⟨rfl,rfl⟩
set_option maxRecDepth 20000
variable {γ:List (Nat×AV)}
structure TxtQ(x:AV)(l:List UInt8):Prop where
 src:∃ p:Prop,p∧∀ h,srcS h 1 x=some (p,l.length,l.map byteC)
 len:∀ s,lenS Tp 37 s x=some (.v (.int .i64 l.length))
theorem txt_nil:TxtQ (.v (.slice none 0 0)) []:=⟨⟨True,trivial,fun h=>rfl⟩,fun s=>by
 have e37:elemT Tp 37=some 5:=by kernel_rfl
 simp only[lenS,e37];rfl⟩
theorem txt_sl(b:Bool)(l:List UInt8):TxtQ (.sl b l.length l.length (l.map byteC)) l:=⟨⟨l.length * 1≤(l.map byteC).length,by simp,fun h=>by simp only[srcS,Nat.mul_one];rw[Bt (by simp)]⟩,fun s=>by
 have e37:elemT Tp 37=some 5:=by kernel_rfl
 simp only[lenS,e37];rfl⟩
section
variable {P:Program} {H:List ABlk} {b:Bool}
end
end Go.Proofs.YtlobiioioicmhaaGreatDoor
