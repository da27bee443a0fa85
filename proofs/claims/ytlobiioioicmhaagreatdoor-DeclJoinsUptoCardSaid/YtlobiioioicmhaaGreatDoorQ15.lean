/- Contracts of the functions that the law reaches. -/
import Derived.Test.YtlobiioioicmhaaGreatDoorQ14
import Derived.Test.YtlobiioioicmhaaGreatDoorCards
import Derived.Test.YtlobiioioicmhaaGreatDoorTie
import Derived.WalkKit
import Derived.ProofKit
import Derived.OpenShut
import Derived.ShutString
import Derived.ChangeOld
import Derived.SizedLaws
import Derived.Deep.DeepHandedRow
import Derived.Deep.DeepWitnessRowRef
import Derived.Stop.LaidErr
import Derived.Lib.LaidIn
import Derived.Deep.Slices
import Derived.Lib.LaidTab
set_option linter.all false
namespace Go.Proofs.YtlobiioioicmhaaGreatDoor
open Go Go.Ev
theorem name_not10{c:Nat}(h:nameN c=true):c≠10:=by rintro rfl;revert h;decide
theorem digit_not10{c:Nat}(h:digitN c=true):c≠10:=by rintro rfl;revert h;decide
theorem digits_not10{l:List UInt8}{i k:Nat}(hi:i≤l.length)(h1:i≤k)(h2:k<digitsEnd l i):atL l k≠10:=
 digit_not10 ((spanEnd_facts (q:=digitN) (l:=l) _ (i:=i) rfl hi).1 k h1 (by rw[←digitsEnd_span];exact h2))
theorem escF_not10{l:List UInt8}(h0:atL l 0=92)(hn:(escF l).2≠0):∀ k,k<(escF l).2→atL l k≠10:=by
 unfold escF at hn⊢
 split
 ·rename_i h
  intro k hk
  have:k=0∨k=1:=by simp only at hk;omega
  rcases this with rfl|rfl
  ·omega
  ·rcases h with h|h<;>omega
 ·rename_i h
  rw[if_neg h]at hn
  split
  ·rename_i h2
   intro k hk
   have hh:∀ c,0≤hexN c→c≠10:=fun c hc=>by rintro rfl;revert hc;decide
   have:k=0∨k=1∨k=2∨k=3:=by simp only at hk;omega
   rcases this with rfl|rfl|rfl|rfl
   ·omega
   ·omega
   ·exact hh _ h2.2.2.1
   ·exact hh _ h2.2.2.2.1
  ·rename_i h2;rw[if_neg h2]at hn;exact absurd rfl hn
theorem textF_not10(l:List UInt8):∀ (k i:Nat) (d q:List UInt8) (n:Nat),textF k l i d=some (q,n)→∀ j,i≤j→j<n→atL l j≠10
 |0,_,_,_,_,h=>by cases h
 |k+1,i,d,q,n,h=>by
  intro j h1 h2
  rw[textF]at h
  split at h
  ·cases h
  split at h
  ·rename_i hq
   cases h
   have:j=i:=by omega
   subst this
   omega
  split at h
  ·rename_i h92
   split at h
   ·cases h
   ·rename_i hz
    by_cases hj:j<i+(escF (l.drop i)).2
    ·have:=escF_not10 (l:=l.drop i) (by rw[atL_drop];exact h92) hz (j-i) (by omega)
     rwa [atL_drop,show i+(j-i)=j by omega]at this
    ·exact textF_not10 l k _ _ q n h j (by omega) h2
  split at h
  ·cases h
  ·rename_i hc
   by_cases hj:j=i
   ·subst hj;omega
   ·exact textF_not10 l k _ _ q n h j (by omega) h2
theorem head_not10{s:List UInt8}{t:TokD}(h:headD s=.ok t)(h1:1≤s.length):∀ k,k<t.size→atL s k≠10:=by
 intro k hk
 unfold headD at h
 split at h
 ·rename_i hl
  split at h
  ·cases h
  ·cases h
   have hk:k<spanEnd nameN s 1:=hk
   by_cases h0:k=0
   ·subst h0;exact name_not10 (by unfold nameN;rw[hl];rfl)
   ·exact name_not10 ((spanEnd_facts (q:=nameN) (l:=s) _ (i:=1) rfl h1).1 k (by omega) hk)
 ·split at h
  ·rename_i hd
   have hlt:=digitsEnd_lt hd
   have hle:=digitsEnd_le (l:=s) (i:=0) (Nat.zero_le _)
   unfold numberD at h
   split at h
   ·rename_i hc
    unfold realD at h
    split at h
    ·cases h
     have hk:k<digitsEnd s (digitsEnd s 0+1+sgOf s):=hk
     have hp:digitsEnd s 0+1+sgOf s≤s.length:=by
      have:=digitsEnd_step hc.2
      omega
     by_cases k0:k<digitsEnd s 0
     ·exact digits_not10 (Nat.zero_le _) (Nat.zero_le _) k0
     ·by_cases k1:k=digitsEnd s 0
      ·subst k1;rw[hc.1];decide
      ·by_cases k2:digitsEnd s 0+1+sgOf s≤k
       ·exact digits_not10 hp k2 hk
       ·have hs:sgOf s=1∧k=digitsEnd s 0+1:=by
         have:sgOf s≤1:=by unfold sgOf;split<;>omega
         omega
        have:atL s (digitsEnd s 0+1)=45:=by
         have h1:=hs.1
         unfold sgOf at h1
         split at h1
         ·rename_i h2;exact h2.2
         ·cases h1
        rw[hs.2,this];decide
    ·cases h
   ·split at h
    ·cases h
     exact digits_not10 (Nat.zero_le _) (Nat.zero_le _) hk
    ·cases h
  ·split at h
   ·rename_i ht
    unfold textD at h
    split at h
    ·cases h
    ·rename_i d n hq
     cases h
     by_cases h0:k=0
     ·subst h0;rw[ht];decide
     ·exact textF_not10 s _ 1 [] d n hq k (by omega) hk
   ·split at h
    ·cases h
    ·rename_i hm
     cases h
     have hk:k<markN s:=hk
     unfold markN at hm hk
     split at hk
     ·rename_i h2
      have:k=0∨k=1:=by omega
      have hall:∀ x∈dblL,x.toNat≠10:=by decide
      match s,h2.1 with
      |a::c::r,_=>
       have hsub:=h2.2.2.2
       rcases this with rfl|rfl
       ·intro e
        have ea:a.toNat=10:=e
        have hsub':hasSub dblL [a,c]=true:=by simpa using hsub
        have:∀ (l:List UInt8) (a c:UInt8),hasSub l [a,c]=true→a∈l:=by
         intro l
         induction l with
         |nil=>intro a c h;simp[hasSub]at h
         |cons b l ih=>
          intro a c h
          rw[hasSub,Bool.or_eq_true]at h
          rcases h with h|h
          ·rw[List.isPrefixOf_iff_prefix]at h
           obtain⟨r,hr⟩:=h
           rw[←hr];simp
          ·exact List.mem_cons_of_mem _ (ih a c h)
        exact hall a (this _ _ _ hsub') ea
       ·intro e
        have ec:c.toNat=10:=e
        exact hall c (hasSub_mem dblL a c (by simpa using hsub)) ec
     ·split at hk
      ·rename_i h2
       have:k=0:=by omega
       subst this
       intro e
       rw[e]at h2
       revert h2;decide
      ·omega
theorem err_nl{a b:List UInt8}{p:Nat}{e:Int}(hp:p<a.length)(h:headD (a.drop p)=.error e):∃ e',headD ((a++10::b).drop p)=.error e':=by
 cases hd:headD ((a++10::b).drop p)with
 |error e'=>exact⟨e',rfl⟩
 |ok t=>
  exfalso
  rw[drop_app_le (by omega)]at hd
  have hl:(a.drop p).length=a.length-p:=List.length_drop
  have n10:=head_not10 hd (by rw[List.length_append];omega)
  by_cases hs:t.size≤a.length-p
  ·have hsz:=headD_size (l:=a.drop p++10::b) (by rw[List.length_append];omega) hd
   have:=headD_loc hd hsz.1 (s':=a.drop p) ⟨hsz.2,by omega,by rw[List.take_append_of_le_length (by omega)],by
    by_cases he:t.size=a.length-p
    ·exact .inr (.inl (by omega))
    ·exact .inl ⟨by rw[List.length_append];omega,by omega,by rw[List.take_append_of_le_length (by omega)]⟩⟩
   rw[h]at this
   cases this
  ·refine n10 (a.length-p) (by omega) ?_
   unfold atL
   rw[List.getD_eq_getElem?_getD,List.getElem?_append_right (by omega),hl,Nat.sub_self]
   rfl
theorem app_nl(a b:List UInt8):a++10::b=(a++[10])++b:=by simp
theorem len_nl(a b:List UInt8):(a++10::b).length=a.length+1+b.length:=by rw[List.length_append,List.length_cons];omega
theorem nextT_nl2{a b:List UInt8}{i:Nat}:nextT (a++10::b) (a.length+1+i)=a.length+1+nextT b i:=by
 have:=nextT_sh (c:=a++[10]) (b:=b) (i:=i)
 rw[List.length_append]at this
 rw[app_nl];exact this
theorem pre_nl2{a b:List UInt8}{T:List (TokD×Nat)}{j:Nat}(h:Pre b 0 T j):Pre (a++10::b) (a.length+1) (shT (a.length+1) T) (a.length+1+j):=by
 have:=Pre.sh (a++[10]) h
 rw[List.length_append]at this
 rw[app_nl];exact this
theorem pre_join{a b:List UInt8}{T1 T2:List (TokD×Nat)}{j1 j2:Nat}(h1:Pre a 0 T1 j1)(e1:a.length≤nextT a j1)(h2:Pre b 0 T2 j2):
  ∃ j,Pre (a++10::b) 0 (T1++shT (a.length+1) T2) j∧nextT (a++10::b) j=a.length+1+nextT b j2:=by
 have p1:=Pre.nl b (Nat.zero_le _) h1
 have l1:=(Pre.le (Nat.zero_le _) h1).2
 have n1:nextT (a++10::b) j1=a.length+1+nextT b 0:=by rw[nextT_nl l1,if_neg (by omega)]
 have n2:nextT (a++10::b) (a.length+1)=a.length+1+nextT b 0:=nextT_nl2 (i:=0)
 by_cases hT:T2=[]
 ·subst hT
  have h2:0=j2:=h2
  subst h2
  exact⟨j1,by rw[show shT (a.length+1) []=[]from rfl,List.append_nil];exact p1,n1⟩
 ·refine⟨a.length+1+j2,p1.app ((pre_nl2 h2).first (by unfold shT;simpa using hT) (by rw[n1,n2])),nextT_nl2⟩
theorem join_ok{a b:List UInt8}{T1 T2:List (TokD×Nat)}(hl:(a++10::b).length≤32768)(h1:okToks a=some T1)(h2:okToks b=some T2):okToks (a++10::b)=some (T1++shT (a.length+1) T2):=by
 rcases toks_cases a with⟨_,h,_⟩|⟨_,T,j,hp,hn,h⟩|⟨_,T,j,e,_,_,_,h,_⟩
 ·rw[h]at h1;cases h1
 ·rw[h]at h1;cases h1
  rcases toks_cases b with⟨_,h,_⟩|⟨_,T',j',hp',hn',h⟩|⟨_,T',j',e,_,_,_,h,_⟩
  ·rw[h]at h2;cases h2
  ·rw[h]at h2;cases h2
   obtain⟨k,q1,q2⟩:=pre_join hp hn hp'
   exact okToks_of hl q1 (by rw[q2,len_nl];omega)
  ·rw[h]at h2;cases h2
 ·rw[h]at h1;cases h1
theorem join_bad1{a b:List UInt8}(hl:(a++10::b).length≤32768)(h1:okToks a=none):okToks (a++10::b)=none:=by
 have:=len_nl a b
 rcases toks_cases a with⟨hb,h,_⟩|⟨_,T,j,hp,hn,h⟩|⟨_,T,j,e,hp,hn,he,h,_⟩
 ·omega
 ·rw[h]at h1;cases h1
 ·obtain⟨e',he'⟩:=err_nl (b:=b) hn he
  have l1:=(Pre.le (Nat.zero_le _) hp).2
  have n1:nextT (a++10::b) j=nextT a j:=by rw[nextT_nl l1,if_pos hn]
  exact (noToks_of hl (Pre.nl b (Nat.zero_le _) hp) (by rw[n1];omega) (by rw[n1];exact he')).1
theorem join_bad2{a b:List UInt8}{T1:List (TokD×Nat)}{x:(TokD×Nat)×Int}(hl:(a++10::b).length≤32768)(h1:okToks a=some T1)(h2:okToks b=none)(hx:(eachItems b).find? badI=some x):
  okToks (a++10::b)=none∧(eachItems (a++10::b)).find? badI=some ((zeroT,a.length+1+x.1.2),x.2):=by
 have hlen:=len_nl a b
 rcases toks_cases a with⟨_,h,_⟩|⟨_,T,j,hp,hn,h⟩|⟨_,T,j,e,_,_,_,h,_⟩
 ·rw[h]at h1;cases h1
 ·rcases toks_cases b with⟨hb,h,hx'⟩|⟨_,T',j',hp',hn',h⟩|⟨_,T',j',e,hp',hn',he,h,hx'⟩
  ·omega
  ·rw[h]at h2;cases h2
  ·rw[hx']at hx;cases hx
   obtain⟨k,q1,q2⟩:=pre_join hp hn hp'
   have hd:headD ((a++10::b).drop (nextT (a++10::b) k))=.error e:=by
    rw[q2,app_nl,←List.drop_drop,List.drop_left' (by rw[List.length_append];rfl)];exact he
   have:=noToks_of hl q1 (by rw[q2,hlen];omega) hd
   rw[q2]at this
   exact this
 ·rw[h]at h1;cases h1
theorem progR_adv(ts:List Tk):(progR ts).adv ts 0 0:=prog_adv _ _ _ (Nat.zero_le _)
theorem progR_end{ts:List Tk}{x:Pg}{q:Nat}(h:progR ts=.ok x q):q=ts.length:=((prog_lc (A:=ts) (B:=[]) (ts.length+1) ((ts++[]).length+1) zPg 0 (Nat.zero_le _) (by omega) (by omega)).1 x q h).1
theorem readO_none{α:Type}{z:α}{D:List Tk→DR α}{l:List UInt8}{x:(TokD×Nat)×Int}(h:okToks l=none)(hx:(eachItems l).find? badI=some x):readO z D l=(z,(x.1.2:Int),x.2):=by
 unfold readO
 rw[h]
 simp only[]
 rw[hx]
theorem readO_bad{α:Type}{z:α}{D:List Tk→DR α}{l:List UInt8}{T:List (TokD×Nat)}{q:Nat}{e:Int}(h:okToks l=some T)(hd:D (T.map tkOf)=.bad q e):readO z D l=(z,plO (T.map tkOf) l.length q,e):=by
 unfold readO
 rw[h]
 simp only[]
 rw[hd]
theorem progO_ok{l:List UInt8}{T:List (TokD×Nat)}{x:Pg}{q:Nat}(h:okToks l=some T)(hd:progR (T.map tkOf)=.ok x q):progO l=(x,0,0):=by
 have:=progR_end hd
 rw[List.length_map]at this
 unfold progO readO
 rw[h]
 simp only[]
 rw[hd]
 simp only[]
 rw[if_neg (by omega)]
theorem noToks_find{l:List UInt8}(h:okToks l=none):∃ x,(eachItems l).find? badI=some x∧x.2≠0∧x.1.2≤l.length:=by
 rcases toks_cases l with⟨_,_,e⟩|⟨_,T,j,_,_,e⟩|⟨_,T,j,er,_,hn,he,_,e⟩
 ·exact⟨_,e,by decide,Nat.zero_le _⟩
 ·rw[e]at h;cases h
 ·exact⟨_,e,headD_err he,Nat.le_of_lt hn⟩
theorem pre_pos{l:List UInt8}:∀ {T:List (TokD×Nat)} {i j:Nat},Pre l i T j→∀ x∈T,x.2<l.length
 |[],i,j,h,x,hx=>by cases hx
 |y::T,i,j,h,x,hx=>by
  rcases List.mem_cons.1 hx with rfl|hx
  ·exact h.2.1
  ·exact pre_pos h.2.2.2 x hx
theorem toks_pos{l:List UInt8}{T:List (TokD×Nat)}(h:okToks l=some T):∀ x∈T,x.2<l.length:=by
 rcases toks_cases l with⟨_,e,_⟩|⟨_,T1,j,hp,_,e⟩|⟨_,T1,j,er,_,_,_,e,_⟩
 ·rw[e]at h;cases h
 ·rw[e]at h;cases h;exact pre_pos hp
 ·rw[e]at h;cases h
theorem plO_le{l:List UInt8}{T:List (TokD×Nat)}(h:okToks l=some T)(q:Nat):0≤plO (T.map tkOf) l.length q∧plO (T.map tkOf) l.length q≤l.length:=by
 unfold plO
 rw[List.getElem?_map]
 cases e:T[q]? with
 |none=>simp only[Option.map_none];omega
 |some x=>
  have:=toks_pos h x (List.mem_of_getElem? e)
  simp only[Option.map_some,tkOf]
  omega
theorem progO_cases(l:List UInt8):((progO l).2.2=0∧(progO l).2.1=0∧∃ T x q,okToks l=some T∧progR (T.map tkOf)=.ok x q∧progO l=(x,0,0))∨
  ((progO l).2.2≠0∧(progO l).1=zPg∧0≤(progO l).2.1∧(progO l).2.1≤l.length):=by
 cases h:okToks l with
 |none=>
  obtain⟨x,hx,h0,hl⟩:=noToks_find h
  have e:progO l=_:=readO_none h hx
  rw[e]
  exact .inr ⟨h0,rfl,by show (0:Int)≤(x.1.2:Int);omega,by show (x.1.2:Int)≤_;omega⟩
 |some T=>
  have ad:=progR_adv (T.map tkOf)
  cases hd:progR (T.map tkOf)with
  |ok x q=>
   have e:=progO_ok h hd
   exact .inl ⟨by rw[e],by rw[e],T,x,q,rfl,hd,e⟩
  |bad q er=>
   rw[hd]at ad
   have e:progO l=_:=readO_bad h hd
   rw[e]
   exact .inr ⟨ad.2,rfl,plO_le h q⟩
theorem np_sh(k:Nat)(T:List (TokD×Nat)):((shT k T).map tkOf).map np=(T.map tkOf).map np:=by
 unfold shT
 rw[List.map_map,List.map_map,List.map_map]
 rfl
theorem prog_join{A B B':List Tk}{g:Pg}{q:Nat}(hA:progR A=.ok g q)(hB:B'.map np=B.map np):progR (A++B')=((progR B).pre g).sh A.length:=by
 obtain⟨h1,f2,h3,h4⟩:=(prog_lc (A:=A) (B:=B') (A.length+1) ((A++B').length+1) zPg 0 (Nat.zero_le _) (by omega) (by omega)).1 g q hA
 have hl:B'.length=B.length:=by have:=congrArg List.length hB;simpa using this
 show progD (A++B') ((A++B').length+1) zPg 0=_
 rw[h4]
 have h5:=progD_sh (A:=A) (B:=B') (B'.length+1) f2 g 0 (Nat.zero_le _) (by omega) (by rw[List.length_append]at h3;omega)
 rw[Nat.add_zero]at h5
 rw[h5,←progD_np B',hB,progD_np,hl]
 have h6:=progD_pre B g (B.length+1) zPg 0
 have h7:(⟨g.tags++zPg.tags,g.kinds++zPg.kinds⟩:Pg)=g:=by simp[zPg]
 rw[h7]at h6
 rw[h6]
 rfl
theorem plO_sh(A:List Tk)(T:List (TokD×Nat))(k n q:Nat):plO (A++(shT k T).map tkOf) (k+n) (A.length+q)=k+plO (T.map tkOf) n q:=by
 unfold plO shT
 rw[List.getElem?_append_right (by omega),show A.length+q-A.length=q by omega]
 simp only[List.getElem?_map]
 cases T[q]? with
 |none=>simp only[Option.map_none];omega
 |some x=>simp only[Option.map_some,tkOf];omega
theorem joins_bad{a b:List UInt8}(hl:(a++10::b).length≤32768)(ha:(progO a).2.2≠0):(progO (a++10::b)).2.2≠0∨(progO a).2.1=a.length:=by
 have none_bad:okToks (a++10::b)=none→(progO (a++10::b)).2.2≠0:=fun h=>by
  obtain⟨x,hx,h0,_⟩:=noToks_find h
  have e:progO (a++10::b)=_:=readO_none h hx
  rw[e];exact h0
 cases h1:okToks a with
 |none=>exact .inl (none_bad (join_bad1 hl h1))
 |some T1=>
  cases h2:okToks b with
  |none=>
   obtain⟨x,hx,h0,_⟩:=noToks_find h2
   exact .inl (none_bad (join_bad2 hl h1 h2 hx).1)
  |some T2=>
   have hJ:=join_ok hl h1 h2
   cases hd:progR (T1.map tkOf)with
   |ok x q=>rw[progO_ok h1 hd]at ha;exact absurd rfl ha
   |bad q e=>
    have e1:progO a=_:=readO_bad h1 hd
    have ad:=progR_adv (T1.map tkOf)
    rw[hd]at ad
    by_cases hq:q<(T1.map tkOf).length
    ·left
     obtain⟨q',e',h'⟩:=(prog_lc (A:=T1.map tkOf) (B:=(shT (a.length+1) T2).map tkOf) ((T1.map tkOf).length+1) ((T1.map tkOf++(shT (a.length+1) T2).map tkOf).length+1) zPg 0 (Nat.zero_le _) (by omega) (by omega)).2 q e hd hq
     have h'':progR ((T1++shT (a.length+1) T2).map tkOf)=.bad q' e':=by rw[List.map_append];exact h'
     have e2:progO (a++10::b)=_:=readO_bad hJ h''
     have ad2:=progR_adv ((T1++shT (a.length+1) T2).map tkOf)
     rw[h'']at ad2
     rw[e2];exact ad2.2
    ·right
     rw[e1]
     show plO _ _ _=_
     unfold plO
     rw[List.getElem?_eq_none (by omega)]
theorem joins_second{a b:List UInt8}(hl:(a++10::b).length≤32768)(ha:(progO a).2.2=0)(hb:(progO b).2.2≠0):(progO (a++10::b)).2.2=(progO b).2.2∧(progO (a++10::b)).2.1=(a.length:Int)+1+(progO b).2.1:=by
 rcases progO_cases a with⟨_,_,T1,g,q,h1,hd1,_⟩|⟨h,_⟩
 rotate_left
 ·exact absurd ha h
 cases h2:okToks b with
 |none=>
  obtain⟨x,hx,h0,_⟩:=noToks_find h2
  obtain⟨j1,j2⟩:=join_bad2 hl h1 h2 hx
  have e1:progO (a++10::b)=_:=readO_none j1 j2
  have e2:progO b=_:=readO_none h2 hx
  rw[e1,e2]
  refine⟨rfl,?_⟩
  show ((a.length+1+x.1.2:Nat):Int)=(a.length:Int)+1+(x.1.2:Int)
  omega
 |some T2=>
  have hJ:=join_ok hl h1 h2
  cases hd:progR (T2.map tkOf)with
  |ok x q=>rw[progO_ok h2 hd]at hb;exact absurd rfl hb
  |bad q' e=>
   have h'':progR ((T1++shT (a.length+1) T2).map tkOf)=.bad ((T1.map tkOf).length+q') e:=by
    rw[List.map_append,prog_join hd1 (np_sh _ T2),hd];rfl
   have e1:progO (a++10::b)=_:=readO_bad hJ h''
   have e2:progO b=_:=readO_bad h2 hd
   rw[e1,e2]
   refine⟨rfl,?_⟩
   show plO _ _ _=(a.length:Int)+1+plO _ _ _
   rw[List.map_append,len_nl]
   have:=plO_sh (T1.map tkOf) T2 (a.length+1) b.length q'
   rw[this]
   omega
theorem joins_both{a b:List UInt8}(hl:(a++10::b).length≤32768)(ha:(progO a).2.2=0)(hb:(progO b).2.2=0):progO (a++10::b)=(⟨(progO a).1.tags++(progO b).1.tags,(progO a).1.kinds++(progO b).1.kinds⟩,0,0):=by
 rcases progO_cases a with⟨_,_,T1,g1,q1,h1,hd1,e1⟩|⟨h,_⟩
 rotate_left
 ·exact absurd ha h
 rcases progO_cases b with⟨_,_,T2,g2,q2,h2,hd2,e2⟩|⟨h,_⟩
 rotate_left
 ·exact absurd hb h
 have hJ:=join_ok hl h1 h2
 have h'':progR ((T1++shT (a.length+1) T2).map tkOf)=.ok ⟨g1.tags++g2.tags,g1.kinds++g2.kinds⟩ ((T1.map tkOf).length+q2):=by
  rw[List.map_append,prog_join hd1 (np_sh _ T2),hd2];rfl
 rw[progO_ok hJ h'',e1,e2]
theorem joins_long{a b:List UInt8}(hl:32768<(a++10::b).length):progO (a++10::b)=(zPg,0,3):=by
 rcases toks_cases (a++10::b)with⟨_,h,e⟩|⟨h,_⟩|⟨h,_⟩
 ·exact readO_none h e
 ·omega
 ·omega
set_option maxRecDepth 20000
variable {γ:List (Nat×AV)}
structure TxtQ(x:AV)(l:List UInt8):Prop where
 src:∃ p:Prop,p∧∀ h,srcS h 1 x=some (p,l.length,l.map byteC)
 len:∀ s,lenS Tryz.prog 37 s x=some (.v (.int .i64 l.length))
theorem txt_nil:TxtQ (.v (.slice none 0 0)) []:=⟨⟨True,trivial,fun h=>rfl⟩,fun s=>by
 have e37:elemT Tryz.prog 37=some 5:=by kernel_rfl
 simp only[lenS,e37];rfl⟩
theorem txt_sl(b:Bool)(l:List UInt8):TxtQ (.sl b l.length l.length (l.map byteC)) l:=⟨⟨l.length * 1≤(l.map byteC).length,by simp,fun h=>by simp only[srcS,Nat.mul_one];rw[List.take_of_length_le (by simp)]⟩,fun s=>by
 have e37:elemT Tryz.prog 37=some 5:=by kernel_rfl
 simp only[lenS,e37];rfl⟩
theorem src_sl{sz n:Nat}{cs:List AV}(h:cs.length=n * sz):∃ p:Prop,p∧∀ H,srcS H sz (slA n cs)=some (p,n,cs):=by
 cases n with
 |zero=>
  have:cs=[]:=List.length_eq_zero_iff.1 (by omega)
  subst this
  exact⟨True,trivial,fun _=>rfl⟩
 |succ n=>exact⟨(n+1) * sz≤cs.length,by omega,fun H=>by simp only[slA,srcS];rw[List.take_of_length_le (by omega)]⟩
theorem flatm_len{α:Type}{f:α→List AV}{m:Nat}(hf:∀ x,(f x).length=m):∀ l:List α,(l.flatMap f).length=l.length * m
 |[]=>by simp
 |x::l=>by rw[List.flatMap_cons,List.length_append,hf,flatm_len hf l,List.length_cons,Nat.succ_mul];omega
theorem all_flat{α:Type}{f:α→List AV}(hf:∀ x,(f x).all oneA=true):∀ l:List α,(l.flatMap f).all oneA=true
 |[]=>rfl
 |x::l=>by rw[List.flatMap_cons,List.all_append,hf,all_flat hf l];rfl
theorem one_tg(t:Tg):t.cells.all oneA=true:=by
 have h:=oneSl t.types.length (t.types.map intC)
 simp only[Tg.cells,List.all_cons,List.all_nil,intsA,h,Bool.and_true];rfl
theorem one_kd(k:Kd):k.cells.all oneA=true:=by
 have h:=oneSl k.chords.length (k.chords.flatMap Ch.cells)
 simp only[Kd.cells,List.all_cons,List.all_nil,chordsA,h,Bool.and_true];rfl
section
variable {P:Program} {H:List ABlk} {b:Bool}
theorem fz_slr(n:Nat)(cs:List AV):fz P H b (slA n cs) (slA n cs):=by
 cases n with
 |zero=>simp only[slA,fz]
 |succ n=>simp only[slA,fz,true_or]
theorem fzL_app:∀ {ys xs ys' xs':List AV},fzL P H b ys xs→fzL P H b ys' xs'→fzL P H b (ys++ys') (xs++xs')
 |[],xs,ys',xs',h1,h2=>by simp only[fzL]at h1;subst h1;exact h2
 |y::ys,xs,ys',xs',h1,h2=>by
  simp only[fzL]at h1
  obtain⟨x,xs1,rfl,e1,e2⟩:=h1
  simp only[List.cons_append,fzL]
  exact⟨_,_,rfl,e1,fzL_app e2 h2⟩
theorem fzL_flat{α:Type}{f:α→List AV}(hf:∀ x,fzL P H b (f x) (f x)):∀ l:List α,fzL P H b (l.flatMap f) (l.flatMap f)
 |[]=>by simp only[List.flatMap_nil,fzL]
 |x::l=>by rw[List.flatMap_cons];exact fzL_app (hf x) (fzL_flat hf l)
theorem fz_tg(t:Tg):fzL P H b t.cells t.cells:=by
 simp only[Tg.cells,fzL]
 exact⟨_,_,rfl,by simp only[strC,fz],_,_,rfl,fz_slr _ _,rfl⟩
theorem fz_kd(k:Kd):fzL P H b k.cells k.cells:=by
 simp only[Kd.cells,fzL]
 exact⟨_,_,rfl,by simp only[strC,fz],_,_,rfl,fz_slr _ _,rfl⟩
theorem fz_nilB:fz P H b (.v (.slice none 0 0)) (.v (.slice none 0 0)):=by simp only[fz]
theorem fz_own{n m j ver:Nat}{k:ABlk}{cs:List AV}(hj:H[j]?=some k)(hv:ver=k.ver)(hn:n≠0)(hm:m=n)(hc:cs=k.cells)(hr:fzL P H b cs cs):fz P H b (slB b n cs) (.own j ver m):=by
 subst hc
 subst hv
 subst hm
 obtain⟨n,rfl⟩:∃ q,m=q+1:=⟨m-1,by omega⟩
 simp only[slB,fz]
 exact .inr ⟨trivial,j,k,_,rfl,hj,Nat.le_refl _,.inl trivial,List.prefix_rfl,hr⟩
theorem fz_pg2{g:Pg}{N1 N2:AV}(h1:fz P H b (slB b g.tags.length (g.tags.flatMap Tg.cells)) N1)(h2:fz P H b (slB b g.kinds.length (g.kinds.flatMap Kd.cells)) N2):
  fzL P H b [g.av,.agg (g.cellsB b)] [.agg [tagsA g.tags,kindsA g.kinds],.agg [N1,N2]]:=by
 simp only[fzL,Pg.av,Pg.cells,Pg.cellsB,fz]
 exact⟨_,_,rfl,⟨_,rfl,_,_,rfl,fz_slr _ _,_,_,rfl,fz_slr _ _,rfl⟩,_,_,rfl,⟨_,rfl,_,_,rfl,h1,_,_,rfl,h2,rfl⟩,rfl⟩
end
set_option maxHeartbeats 4000000 in
theorem declJoins_ev(hγ:Gl γ)(hγ2:GlW γ){x y:AV}{l1 l2:List UInt8}(hx:TxtQ x l1)(hy:TxtQ y l2)(h1:l1.length≤140737488351232)(h2:l2.length≤140737488351232)(h3:l1.length+l2.length+1≤140737488351232):Ev Tryz.prog γ 8 [x,y] (.v (.bool true)):=by
 obtain⟨⟨px,hpx,sx⟩,lx⟩:=hx
 obtain⟨⟨py,hpy,sy⟩,ly⟩:=hy
 have hp1:=parse8_ev hγ hγ2 true l1 h1
 have hp2:=parse8_ev hγ hγ2 true l2 h2
 have hn1:=noBor_progO l1
 have hn2:=noBor_progO l2
 have c1:=progO_cases l1
 have c2:=progO_cases l2
 have p1:∀ l,oneA (tagsA l)=true∧flat (tagsA l)=some [tagsA l]:=fun l=>by cases l<;>exact⟨rfl,rfl⟩
 have p2:∀ l,oneA (kindsA l)=true∧flat (kindsA l)=some [kindsA l]:=fun l=>by cases l<;>exact⟨rfl,rfl⟩
 have lt:∀ (T:List Tg) s,lenS Tryz.prog 68 s (tagsA T)=some (.v (.int .i64 T.length)):=fun T s=>lenSl 68 137 tyP8.2.1 s T.length (T.flatMap Tg.cells)
 have lk:∀ (K:List Kd) s,lenS Tryz.prog 69 s (kindsA K)=some (.v (.int .i64 K.length)):=fun K s=>lenSl 69 90 tyP8.2.2.1 s K.length (K.flatMap Kd.cells)
 obtain⟨J,hJ⟩:∃ J,J=l1++10::l2:=⟨_,rfl⟩
 have hJl:J.length=l1.length+1+l2.length:=by rw[hJ];exact len_nl l1 l2
 have hJb:J.map byteC=l1.map byteC++[.v (.int .u8 10)]++l2.map byteC:=by rw[hJ];simp[byteC]
 have hpJ:=parse8_ev hγ hγ2 true J (by omega)
 have hnJ:=noBor_progO J
 have hcJ:=progs_ev (γ:=γ) (progO J).1 (progO_bnd J)
 rw[hJl]at hpJ
 have q1:List.take l1.length (l1.map byteC)=l1.map byteC:=List.take_of_length_le (by simp)
 have q2:List.take (l1.length+1) (l1.map byteC++[.v (.int .u8 10)])=l1.map byteC++[.v (.int .u8 10)]:=List.take_of_length_le (by simp)
 have hb:=bytes_v J
 rw[hJb]at hpJ hb
 have u10:byteC 10=.v (.int .u8 10):=rfl
 refine Ev.ofE Tryz.func8 rfl ?_
 simp only[Tryz.f8,tyD,tyW,tyL,tyP8,evE,tyX,Bool.not_true,Bool.not_false,Nat.reduceAdd,Nat.reduceSub,Nat.reduceMul,Nat.reduceLT,Nat.reduceLeDiff,Nat.reduceEqDiff,reduceCtorEq,List.reduceReplicate,Int.reduceToNat,Int.reduceLE,Int.reduceLT]
 refine CallE.pure (CallK.intro c40 rfl (awake8_ev hγ hγ2) ?_)
 simp only[tyD,tyW,tyL,tyP8,sx,sy,evE,tyX,Bool.not_true,Bool.not_false,Nat.reduceAdd,Nat.reduceSub,Nat.reduceMul,Nat.reduceLT,Nat.reduceLeDiff,Nat.reduceEqDiff,reduceCtorEq,List.reduceReplicate,Int.reduceToNat,Int.reduceLE,Int.reduceLT]
 refine⟨⟨hpx,all_one_map l1,by omega⟩,CallE.pure (CallK.lend c38 _ (lend1 (k:=⟨1,5,l1.map byteC⟩) rfl List.prefix_rfl (bytes_v l1)) hp1 hn1 ?_)⟩
 obtain⟨o1,g1⟩:=p1 (progO l1).1.tags
 obtain⟨o2,g2⟩:=p2 (progO l1).1.kinds
 obtain⟨o3,g3⟩:=p1 (progO l2).1.tags
 obtain⟨o4,g4⟩:=p2 (progO l2).1.kinds
 obtain⟨o5,g5⟩:=p1 (progO J).1.tags
 obtain⟨o6,g6⟩:=p2 (progO J).1.kinds
 simp only[tyD,tyW,tyL,tyP8,sx,sy,progOA,Pg.av,Pg.cells,intC,o1,o2,g1,g2,evE,tyX,Bool.not_true,Bool.not_false,Nat.reduceAdd,Nat.reduceSub,Nat.reduceMul,Nat.reduceLT,Nat.reduceLeDiff,Nat.reduceEqDiff,reduceCtorEq,List.reduceReplicate,Int.reduceToNat,Int.reduceLE,Int.reduceLT]
 refine⟨⟨hpy,all_one_map l2,by omega⟩,CallE.pure (CallK.lend c38 _ (lend1 (k:=⟨1,5,l2.map byteC⟩) rfl List.prefix_rfl (bytes_v l2)) hp2 hn2 ?_)⟩
 have d1:decide ((progO l1).2.1<0)=false:=decide_eq_false (by rcases c1 with⟨_,h,_⟩|⟨_,_,h,_⟩<;>omega)
 have d2:decide ((l1.length:Int)<(progO l1).2.1)=false:=decide_eq_false (by rcases c1 with⟨_,h,_⟩|⟨_,_,_,h⟩<;>omega)
 have d3:decide ((progO l2).2.1<0)=false:=decide_eq_false (by rcases c2 with⟨_,h,_⟩|⟨_,_,h,_⟩<;>omega)
 have d4:decide ((l2.length:Int)<(progO l2).2.1)=false:=decide_eq_false (by rcases c2 with⟨_,h,_⟩|⟨_,_,_,h⟩<;>omega)
 have hJe:=progO_cases J
 by_cases he1:(progO l1).2.2=0
 rotate_left
 ·have z1:((progO l1).2.2 != 0)=true:=by simpa using he1
  have hz:(progO l1).1=zPg:=by
   rcases c1 with⟨h,_⟩|⟨_,h,_⟩
   ·exact absurd h he1
   ·exact h
  have n1:decide ((0:Int)<(((progO l1).1.tags.length:Nat):Int))=false:=by rw[hz];rfl
  have n2:decide ((0:Int)<(((progO l1).1.kinds.length:Nat):Int))=false:=by rw[hz];rfl
  simp only[tyD,tyW,tyL,tyP8,sx,sy,progOA,Pg.av,Pg.cells,intC,o3,o4,g3,g4,d1,d2,d3,d4,lx,ly,lt,lk,z1,n1,n2,q1,q2,evE,tyX,Bool.not_true,Bool.not_false,Nat.reduceAdd,Nat.reduceSub,Nat.reduceMul,Nat.reduceLT,Nat.reduceLeDiff,Nat.reduceEqDiff,reduceCtorEq,List.reduceReplicate,Int.reduceToNat,Int.reduceLE,Int.reduceLT]
  refine⟨⟨hpx,all_one_map l1,by omega⟩,⟨Nat.le_refl _,by omega⟩,⟨hpy,all_one_map l2,Nat.le_refl _,by omega⟩,?_⟩
  by_cases hlong:32768<l1.length+1+l2.length
  ·have dl:decide ((32768:Int)<((l1.length+1+l2.length:Nat):Int))=true:=decide_eq_true (by omega)
   have hjl:progO J=(zPg,0,3):=by rw[hJ];exact joins_long (by rw[len_nl];exact hlong)
   have u3:((3:Int)==3)=true:=rfl
   have u0:((0:Int)==0)=true:=rfl
   simp only[tyD,tyW,tyL,tyP8,progOA,Pg.av,Pg.cells,intC,lx,ly,dl,evE,tyX,Bool.not_true,Bool.not_false,Nat.reduceAdd,Nat.reduceSub,Nat.reduceMul,Nat.reduceLT,Nat.reduceLeDiff,Nat.reduceEqDiff,reduceCtorEq,List.reduceReplicate,Int.reduceToNat,Int.reduceLE,Int.reduceLT]
   refine CallE.pure (CallK.lend c38 _ (lend1 (k:=⟨3,5,l1.map byteC++[.v (.int .u8 10)]++l2.map byteC⟩) rfl List.prefix_rfl hb) hpJ hnJ ?_)
   rw[progOA,hjl]
   simp only[tyD,tyW,tyL,tyP8,progOA,Pg.av,Pg.cells,intC,lx,ly,u3,u0,zPg,tagsA,kindsA,slA,List.length_nil,evE,tyX,Bool.not_true,Bool.not_false,Nat.reduceAdd,Nat.reduceSub,Nat.reduceMul,Nat.reduceLT,Nat.reduceLeDiff,Nat.reduceEqDiff,reduceCtorEq,List.reduceReplicate,Int.reduceToNat,Int.reduceLE,Int.reduceLT]
  have dl:decide ((32768:Int)<((l1.length+1+l2.length:Nat):Int))=false:=decide_eq_false (by omega)
  have hlJ:(l1++10::l2).length≤32768:=by rw[len_nl];omega
  simp only[tyD,tyW,tyL,tyP8,progOA,Pg.av,Pg.cells,intC,lx,ly,dl,evE,tyX,Bool.not_true,Bool.not_false,Nat.reduceAdd,Nat.reduceSub,Nat.reduceMul,Nat.reduceLT,Nat.reduceLeDiff,Nat.reduceEqDiff,reduceCtorEq,List.reduceReplicate,Int.reduceToNat,Int.reduceLE,Int.reduceLT]
  refine CallE.pure (CallK.lend c38 _ (lend1 (k:=⟨3,5,l1.map byteC++[.v (.int .u8 10)]++l2.map byteC⟩) rfl List.prefix_rfl hb) hpJ hnJ ?_)
  have hb1:=joins_bad hlJ he1
  rw[←hJ]at hb1
  by_cases hj0:(progO J).2.2=0
  ·have zj:((progO J).2.2 != 0)=false:=by simpa using hj0
   have hb2:(progO l1).2.1=l1.length:=hb1.resolve_left (fun h=>h hj0)
   have zp:((progO l1).2.1==(l1.length:Int))=true:=by simpa using hb2
   simp only[tyD,tyW,tyL,tyP8,progOA,Pg.av,Pg.cells,intC,lx,ly,o5,o6,g5,g6,z1,zj,zp,evE,tyX,Bool.not_true,Bool.not_false,Nat.reduceAdd,Nat.reduceSub,Nat.reduceMul,Nat.reduceLT,Nat.reduceLeDiff,Nat.reduceEqDiff,reduceCtorEq,List.reduceReplicate,Int.reduceToNat,Int.reduceLE,Int.reduceLT]
  ·have zj:((progO J).2.2 != 0)=true:=by simpa using hj0
   simp only[tyD,tyW,tyL,tyP8,progOA,Pg.av,Pg.cells,intC,lx,ly,o5,o6,g5,g6,z1,zj,evE,tyX,Bool.not_true,Bool.not_false,Nat.reduceAdd,Nat.reduceSub,Nat.reduceMul,Nat.reduceLT,Nat.reduceLeDiff,Nat.reduceEqDiff,reduceCtorEq,List.reduceReplicate,Int.reduceToNat,Int.reduceLE,Int.reduceLT]
 ·have z1:((progO l1).2.2 != 0)=false:=by simpa using he1
  simp only[tyD,tyW,tyL,tyP8,sx,sy,progOA,Pg.av,Pg.cells,intC,o3,o4,g3,g4,d1,d2,d3,d4,lx,ly,lt,lk,z1,q1,q2,evE,tyX,Bool.not_true,Bool.not_false,Nat.reduceAdd,Nat.reduceSub,Nat.reduceMul,Nat.reduceLT,Nat.reduceLeDiff,Nat.reduceEqDiff,reduceCtorEq,List.reduceReplicate,Int.reduceToNat,Int.reduceLE,Int.reduceLT]
  refine⟨⟨hpx,all_one_map l1,by omega⟩,⟨Nat.le_refl _,by omega⟩,⟨hpy,all_one_map l2,Nat.le_refl _,by omega⟩,?_⟩
  by_cases hlong:32768<l1.length+1+l2.length
  ·have dl:decide ((32768:Int)<((l1.length+1+l2.length:Nat):Int))=true:=decide_eq_true (by omega)
   have hjl:progO J=(zPg,0,3):=by rw[hJ];exact joins_long (by rw[len_nl];exact hlong)
   have u3:((3:Int)==3)=true:=rfl
   have u0:((0:Int)==0)=true:=rfl
   simp only[tyD,tyW,tyL,tyP8,progOA,Pg.av,Pg.cells,intC,lx,ly,dl,evE,tyX,Bool.not_true,Bool.not_false,Nat.reduceAdd,Nat.reduceSub,Nat.reduceMul,Nat.reduceLT,Nat.reduceLeDiff,Nat.reduceEqDiff,reduceCtorEq,List.reduceReplicate,Int.reduceToNat,Int.reduceLE,Int.reduceLT]
   refine CallE.pure (CallK.lend c38 _ (lend1 (k:=⟨3,5,l1.map byteC++[.v (.int .u8 10)]++l2.map byteC⟩) rfl List.prefix_rfl hb) hpJ hnJ ?_)
   rw[progOA,hjl]
   simp only[tyD,tyW,tyL,tyP8,progOA,Pg.av,Pg.cells,intC,lx,ly,u3,u0,zPg,tagsA,kindsA,slA,List.length_nil,evE,tyX,Bool.not_true,Bool.not_false,Nat.reduceAdd,Nat.reduceSub,Nat.reduceMul,Nat.reduceLT,Nat.reduceLeDiff,Nat.reduceEqDiff,reduceCtorEq,List.reduceReplicate,Int.reduceToNat,Int.reduceLE,Int.reduceLT]
  have dl:decide ((32768:Int)<((l1.length+1+l2.length:Nat):Int))=false:=decide_eq_false (by omega)
  have hlJ:(l1++10::l2).length≤32768:=by rw[len_nl];omega
  simp only[tyD,tyW,tyL,tyP8,progOA,Pg.av,Pg.cells,intC,lx,ly,dl,evE,tyX,Bool.not_true,Bool.not_false,Nat.reduceAdd,Nat.reduceSub,Nat.reduceMul,Nat.reduceLT,Nat.reduceLeDiff,Nat.reduceEqDiff,reduceCtorEq,List.reduceReplicate,Int.reduceToNat,Int.reduceLE,Int.reduceLT]
  refine CallE.pure (CallK.lend c38 _ (lend1 (k:=⟨3,5,l1.map byteC++[.v (.int .u8 10)]++l2.map byteC⟩) rfl List.prefix_rfl hb) hpJ hnJ ?_)
  by_cases he2:(progO l2).2.2=0
  rotate_left
  ·have z2:((progO l2).2.2 != 0)=true:=by simpa using he2
   obtain⟨j1,j2⟩:=joins_second hlJ he1 he2
   rw[←hJ]at j1 j2
   have zj:((progO J).2.2==(progO l2).2.2)=true:=by simpa using j1
   have hp2':0≤(progO l2).2.1∧(progO l2).2.1≤l2.length:=by rcases c2 with⟨_,h,_⟩|⟨_,_,h,h'⟩<;>omega
   have w1:IntKind.i64.wrap ((l1.length:Int)+1)=(l1.length:Int)+1:=i64w (by omega) (by omega)
   have w2:IntKind.i64.wrap ((l1.length:Int)+1+(progO l2).2.1)=(progO J).2.1:=(i64w (by omega) (by omega)).trans (by omega)
   have zp:((progO J).2.1==(progO J).2.1)=true:=by simp
   simp only[tyD,tyW,tyL,tyP8,progOA,Pg.av,Pg.cells,intC,lx,ly,o5,o6,g5,g6,z1,z2,zj,w1,w2,zp,evE,tyX,Bool.not_true,Bool.not_false,Nat.reduceAdd,Nat.reduceSub,Nat.reduceMul,Nat.reduceLT,Nat.reduceLeDiff,Nat.reduceEqDiff,reduceCtorEq,List.reduceReplicate,Int.reduceToNat,Int.reduceLE,Int.reduceLT]
  have z2:((progO l2).2.2 != 0)=false:=by simpa using he2
  have hj:=joins_both hlJ he1 he2
  rw[←hJ]at hj
  have hB:=progsB_ev (γ:=γ) true (progO J).1 (progO_bnd J)
  obtain⟨b1,_,b2,_⟩:=progO_bnd l1
  obtain⟨b3,_,b4,_⟩:=progO_bnd l2
  have zj:((0:Int)==0)=true:=rfl
  simp only[tyD,tyW,tyL,tyP8,progOA,Pg.av,Pg.cells,intC,lx,ly,o5,o6,g5,g6,z1,z2,evE,tyX,Bool.not_true,Bool.not_false,Nat.reduceAdd,Nat.reduceSub,Nat.reduceMul,Nat.reduceLT,Nat.reduceLeDiff,Nat.reduceEqDiff,reduceCtorEq,List.reduceReplicate,Int.reduceToNat,Int.reduceLE,Int.reduceLT]
  rw[hj]at hB o5 o6 g5 g6⊢
  clear hpJ hnJ hcJ hp1 hp2 hn1 hn2 c1 c2 hj hJe d1 d2 d3 d4
  simp only at hB o5 o6 g5 g6⊢
  generalize (progO l1).1.tags=T1 at *
  generalize (progO l1).1.kinds=K1 at *
  generalize (progO l2).1.tags=T2 at *
  generalize (progO l2).1.kinds=K2 at *
  obtain⟨u1,hu1,s1⟩:=src_sl (flatm_len (f:=Tg.cells) (m:=2) (fun _=>rfl) T1)
  obtain⟨u2,hu2,s2⟩:=src_sl (flatm_len (f:=Tg.cells) (m:=2) (fun _=>rfl) T2)
  obtain⟨u3,hu3,s3⟩:=src_sl (flatm_len (f:=Kd.cells) (m:=2) (fun _=>rfl) K1)
  obtain⟨u4,hu4,s4⟩:=src_sl (flatm_len (f:=Kd.cells) (m:=2) (fun _=>rfl) K2)
  have v1:=all_flat one_tg T1
  have v2:=all_flat one_tg T2
  have v3:=all_flat one_kd K1
  have v4:=all_flat one_kd K2
  have m1:=flatm_len (f:=Tg.cells) (m:=2) (fun _=>rfl) T1
  have m3:=flatm_len (f:=Kd.cells) (m:=2) (fun _=>rfl) K1
  have r1:List.take (T1.length * 2) (T1.flatMap Tg.cells)=T1.flatMap Tg.cells:=List.take_of_length_le (by omega)
  have r3:List.take (K1.length * 2) (K1.flatMap Kd.cells)=K1.flatMap Kd.cells:=List.take_of_length_le (by omega)
  have s1:∀ H,srcS H 2 (tagsA T1)=_:=s1
  have s2:∀ H,srcS H 2 (tagsA T2)=_:=s2
  have s3:∀ H,srcS H 2 (kindsA K1)=_:=s3
  have s4:∀ H,srcS H 2 (kindsA K2)=_:=s4
  have n00:((0:Nat)=0)=True:=by simp
  have x1:T1.length=0→T1=[]:=List.length_eq_zero_iff.1
  have x2:T2.length=0→T2=[]:=List.length_eq_zero_iff.1
  have x3:K1.length=0→K1=[]:=List.length_eq_zero_iff.1
  have x4:K2.length=0→K2=[]:=List.length_eq_zero_iff.1
  have a1:∀ {α:Type} (l m:List α),(l++m).length=l.length+m.length:=fun l m=>List.length_append
  by_cases t1:T1.length=0
  ·by_cases t2:T2.length=0
   ·by_cases t3:K1.length=0
    ·by_cases t4:K2.length=0
     ·simp only[tyD,tyW,tyL,tyP8,progOA,Pg.av,Pg.cells,intC,lx,ly,o5,o6,g5,g6,z1,z2,zj,s1,s2,s3,s4,r1,r3,t1,t2,t3,t4,evE,tyX,Bool.not_true,Bool.not_false,Nat.reduceAdd,Nat.reduceSub,Nat.reduceMul,Nat.reduceLT,Nat.reduceLeDiff,Nat.reduceEqDiff,reduceCtorEq,List.reduceReplicate,Int.reduceToNat,Int.reduceLE,Int.reduceLT]
      repeat' (with_reducible refine And.intro ?_ ?_)
      any_goals first|exact hu1|exact hu2|exact hu3|exact hu4|exact v1|exact v2|exact v3|exact v4|omega
      refine CallE.pure (CallK.lend c39 _ (fz_pg2 (g:=⟨T1++T2,K1++K2⟩) ?_ ?_) hB rfl ?_)
      ·rw[x1 t1,x2 t2];exact fz_nilB
      ·rw[x3 t3,x4 t4];exact fz_nilB
      simp only[tyD,tyW,tyL,tyP8,progOA,Pg.av,Pg.cells,intC,lx,ly,o5,o6,g5,g6,z1,z2,zj,s1,s2,s3,s4,r1,r3,evE,tyX,Bool.not_true,Bool.not_false,Nat.reduceAdd,Nat.reduceSub,Nat.reduceMul,Nat.reduceLT,Nat.reduceLeDiff,Nat.reduceEqDiff,reduceCtorEq,List.reduceReplicate,Int.reduceToNat,Int.reduceLE,Int.reduceLT]
     ·simp only[tyD,tyW,tyL,tyP8,progOA,Pg.av,Pg.cells,intC,lx,ly,o5,o6,g5,g6,z1,z2,zj,s1,s2,s3,s4,r1,r3,t1,t2,t3,t4,evE,tyX,Bool.not_true,Bool.not_false,Nat.reduceAdd,Nat.reduceSub,Nat.reduceMul,Nat.reduceLT,Nat.reduceLeDiff,Nat.reduceEqDiff,reduceCtorEq,List.reduceReplicate,Int.reduceToNat,Int.reduceLE,Int.reduceLT]
      repeat' (with_reducible refine And.intro ?_ ?_)
      any_goals first|exact hu1|exact hu2|exact hu3|exact hu4|exact v1|exact v2|exact v3|exact v4|omega
      refine CallE.pure (CallK.lend c39 _ (fz_pg2 (g:=⟨T1++T2,K1++K2⟩) ?_ ?_) hB rfl ?_)
      ·rw[x1 t1,x2 t2];exact fz_nilB
      ·show fz _ _ _ (slB true (K1++K2).length ((K1++K2).flatMap Kd.cells)) _
       refine fz_own (k:=⟨0,90,K2.flatMap Kd.cells⟩) ?_ ?_ ?_ ?_ ?_ (fzL_flat fz_kd _)
       ·exact rfl
       ·exact rfl
       ·first|(rw[a1];done)|(rw[a1];omega)
       ·first|(rw[a1];done)|(rw[a1];omega)
       ·rw[x3 t3];rfl
      simp only[tyD,tyW,tyL,tyP8,progOA,Pg.av,Pg.cells,intC,lx,ly,o5,o6,g5,g6,z1,z2,zj,s1,s2,s3,s4,r1,r3,evE,tyX,Bool.not_true,Bool.not_false,Nat.reduceAdd,Nat.reduceSub,Nat.reduceMul,Nat.reduceLT,Nat.reduceLeDiff,Nat.reduceEqDiff,reduceCtorEq,List.reduceReplicate,Int.reduceToNat,Int.reduceLE,Int.reduceLT]
    ·simp only[tyD,tyW,tyL,tyP8,progOA,Pg.av,Pg.cells,intC,lx,ly,o5,o6,g5,g6,z1,z2,zj,s1,s2,s3,s4,r1,r3,t1,t2,t3,evE,tyX,Bool.not_true,Bool.not_false,Nat.reduceAdd,Nat.reduceSub,Nat.reduceMul,Nat.reduceLT,Nat.reduceLeDiff,Nat.reduceEqDiff,reduceCtorEq,List.reduceReplicate,Int.reduceToNat,Int.reduceLE,Int.reduceLT]
     repeat' (with_reducible refine And.intro ?_ ?_)
     any_goals first|exact hu1|exact hu2|exact hu3|exact hu4|exact v1|exact v2|exact v3|exact v4|omega
     refine CallE.pure (CallK.lend c39 _ (fz_pg2 (g:=⟨T1++T2,K1++K2⟩) ?_ ?_) hB rfl ?_)
     ·rw[x1 t1,x2 t2];exact fz_nilB
     ·show fz _ _ _ (slB true (K1++K2).length ((K1++K2).flatMap Kd.cells)) _
      refine fz_own (k:=⟨1,90,K1.flatMap Kd.cells++K2.flatMap Kd.cells⟩) ?_ ?_ ?_ ?_ ?_ (fzL_flat fz_kd _)
      ·exact rfl
      ·exact rfl
      ·first|(rw[a1];done)|(rw[a1];omega)
      ·first|(rw[a1];done)|(rw[a1];omega)
      ·rw[List.flatMap_append]
     simp only[tyD,tyW,tyL,tyP8,progOA,Pg.av,Pg.cells,intC,lx,ly,o5,o6,g5,g6,z1,z2,zj,s1,s2,s3,s4,r1,r3,evE,tyX,Bool.not_true,Bool.not_false,Nat.reduceAdd,Nat.reduceSub,Nat.reduceMul,Nat.reduceLT,Nat.reduceLeDiff,Nat.reduceEqDiff,reduceCtorEq,List.reduceReplicate,Int.reduceToNat,Int.reduceLE,Int.reduceLT]
   ·by_cases t3:K1.length=0
    ·by_cases t4:K2.length=0
     ·simp only[tyD,tyW,tyL,tyP8,progOA,Pg.av,Pg.cells,intC,lx,ly,o5,o6,g5,g6,z1,z2,zj,s1,s2,s3,s4,r1,r3,t1,t2,t3,t4,evE,tyX,Bool.not_true,Bool.not_false,Nat.reduceAdd,Nat.reduceSub,Nat.reduceMul,Nat.reduceLT,Nat.reduceLeDiff,Nat.reduceEqDiff,reduceCtorEq,List.reduceReplicate,Int.reduceToNat,Int.reduceLE,Int.reduceLT]
      repeat' (with_reducible refine And.intro ?_ ?_)
      any_goals first|exact hu1|exact hu2|exact hu3|exact hu4|exact v1|exact v2|exact v3|exact v4|omega
      refine CallE.pure (CallK.lend c39 _ (fz_pg2 (g:=⟨T1++T2,K1++K2⟩) ?_ ?_) hB rfl ?_)
      ·show fz _ _ _ (slB true (T1++T2).length ((T1++T2).flatMap Tg.cells)) _
       refine fz_own (k:=⟨0,137,T2.flatMap Tg.cells⟩) ?_ ?_ ?_ ?_ ?_ (fzL_flat fz_tg _)
       ·exact rfl
       ·exact rfl
       ·first|(rw[a1];done)|(rw[a1];omega)
       ·first|(rw[a1];done)|(rw[a1];omega)
       ·rw[x1 t1];rfl
      ·rw[x3 t3,x4 t4];exact fz_nilB
      simp only[tyD,tyW,tyL,tyP8,progOA,Pg.av,Pg.cells,intC,lx,ly,o5,o6,g5,g6,z1,z2,zj,s1,s2,s3,s4,r1,r3,evE,tyX,Bool.not_true,Bool.not_false,Nat.reduceAdd,Nat.reduceSub,Nat.reduceMul,Nat.reduceLT,Nat.reduceLeDiff,Nat.reduceEqDiff,reduceCtorEq,List.reduceReplicate,Int.reduceToNat,Int.reduceLE,Int.reduceLT]
     ·simp only[tyD,tyW,tyL,tyP8,progOA,Pg.av,Pg.cells,intC,lx,ly,o5,o6,g5,g6,z1,z2,zj,s1,s2,s3,s4,r1,r3,t1,t2,t3,t4,evE,tyX,Bool.not_true,Bool.not_false,Nat.reduceAdd,Nat.reduceSub,Nat.reduceMul,Nat.reduceLT,Nat.reduceLeDiff,Nat.reduceEqDiff,reduceCtorEq,List.reduceReplicate,Int.reduceToNat,Int.reduceLE,Int.reduceLT]
      repeat' (with_reducible refine And.intro ?_ ?_)
      any_goals first|exact hu1|exact hu2|exact hu3|exact hu4|exact v1|exact v2|exact v3|exact v4|omega
      refine CallE.pure (CallK.lend c39 _ (fz_pg2 (g:=⟨T1++T2,K1++K2⟩) ?_ ?_) hB rfl ?_)
      ·show fz _ _ _ (slB true (T1++T2).length ((T1++T2).flatMap Tg.cells)) _
       refine fz_own (k:=⟨0,137,T2.flatMap Tg.cells⟩) ?_ ?_ ?_ ?_ ?_ (fzL_flat fz_tg _)
       ·exact rfl
       ·exact rfl
       ·first|(rw[a1];done)|(rw[a1];omega)
       ·first|(rw[a1];done)|(rw[a1];omega)
       ·rw[x1 t1];rfl
      ·show fz _ _ _ (slB true (K1++K2).length ((K1++K2).flatMap Kd.cells)) _
       refine fz_own (k:=⟨0,90,K2.flatMap Kd.cells⟩) ?_ ?_ ?_ ?_ ?_ (fzL_flat fz_kd _)
       ·exact rfl
       ·exact rfl
       ·first|(rw[a1];done)|(rw[a1];omega)
       ·first|(rw[a1];done)|(rw[a1];omega)
       ·rw[x3 t3];rfl
      simp only[tyD,tyW,tyL,tyP8,progOA,Pg.av,Pg.cells,intC,lx,ly,o5,o6,g5,g6,z1,z2,zj,s1,s2,s3,s4,r1,r3,evE,tyX,Bool.not_true,Bool.not_false,Nat.reduceAdd,Nat.reduceSub,Nat.reduceMul,Nat.reduceLT,Nat.reduceLeDiff,Nat.reduceEqDiff,reduceCtorEq,List.reduceReplicate,Int.reduceToNat,Int.reduceLE,Int.reduceLT]
    ·simp only[tyD,tyW,tyL,tyP8,progOA,Pg.av,Pg.cells,intC,lx,ly,o5,o6,g5,g6,z1,z2,zj,s1,s2,s3,s4,r1,r3,t1,t2,t3,evE,tyX,Bool.not_true,Bool.not_false,Nat.reduceAdd,Nat.reduceSub,Nat.reduceMul,Nat.reduceLT,Nat.reduceLeDiff,Nat.reduceEqDiff,reduceCtorEq,List.reduceReplicate,Int.reduceToNat,Int.reduceLE,Int.reduceLT]
     repeat' (with_reducible refine And.intro ?_ ?_)
     any_goals first|exact hu1|exact hu2|exact hu3|exact hu4|exact v1|exact v2|exact v3|exact v4|omega
     refine CallE.pure (CallK.lend c39 _ (fz_pg2 (g:=⟨T1++T2,K1++K2⟩) ?_ ?_) hB rfl ?_)
     ·show fz _ _ _ (slB true (T1++T2).length ((T1++T2).flatMap Tg.cells)) _
      refine fz_own (k:=⟨0,137,T2.flatMap Tg.cells⟩) ?_ ?_ ?_ ?_ ?_ (fzL_flat fz_tg _)
      ·exact rfl
      ·exact rfl
      ·first|(rw[a1];done)|(rw[a1];omega)
      ·first|(rw[a1];done)|(rw[a1];omega)
      ·rw[x1 t1];rfl
     ·show fz _ _ _ (slB true (K1++K2).length ((K1++K2).flatMap Kd.cells)) _
      refine fz_own (k:=⟨1,90,K1.flatMap Kd.cells++K2.flatMap Kd.cells⟩) ?_ ?_ ?_ ?_ ?_ (fzL_flat fz_kd _)
      ·exact rfl
      ·exact rfl
      ·first|(rw[a1];done)|(rw[a1];omega)
      ·first|(rw[a1];done)|(rw[a1];omega)
      ·rw[List.flatMap_append]
     simp only[tyD,tyW,tyL,tyP8,progOA,Pg.av,Pg.cells,intC,lx,ly,o5,o6,g5,g6,z1,z2,zj,s1,s2,s3,s4,r1,r3,evE,tyX,Bool.not_true,Bool.not_false,Nat.reduceAdd,Nat.reduceSub,Nat.reduceMul,Nat.reduceLT,Nat.reduceLeDiff,Nat.reduceEqDiff,reduceCtorEq,List.reduceReplicate,Int.reduceToNat,Int.reduceLE,Int.reduceLT]
  ·by_cases t3:K1.length=0
   ·by_cases t4:K2.length=0
    ·simp only[tyD,tyW,tyL,tyP8,progOA,Pg.av,Pg.cells,intC,lx,ly,o5,o6,g5,g6,z1,z2,zj,s1,s2,s3,s4,r1,r3,t1,t3,t4,evE,tyX,Bool.not_true,Bool.not_false,Nat.reduceAdd,Nat.reduceSub,Nat.reduceMul,Nat.reduceLT,Nat.reduceLeDiff,Nat.reduceEqDiff,reduceCtorEq,List.reduceReplicate,Int.reduceToNat,Int.reduceLE,Int.reduceLT]
     repeat' (with_reducible refine And.intro ?_ ?_)
     any_goals first|exact hu1|exact hu2|exact hu3|exact hu4|exact v1|exact v2|exact v3|exact v4|omega
     refine CallE.pure (CallK.lend c39 _ (fz_pg2 (g:=⟨T1++T2,K1++K2⟩) ?_ ?_) hB rfl ?_)
     ·show fz _ _ _ (slB true (T1++T2).length ((T1++T2).flatMap Tg.cells)) _
      refine fz_own (k:=⟨1,137,T1.flatMap Tg.cells++T2.flatMap Tg.cells⟩) ?_ ?_ ?_ ?_ ?_ (fzL_flat fz_tg _)
      ·exact rfl
      ·exact rfl
      ·first|(rw[a1];done)|(rw[a1];omega)
      ·first|(rw[a1];done)|(rw[a1];omega)
      ·rw[List.flatMap_append]
     ·rw[x3 t3,x4 t4];exact fz_nilB
     simp only[tyD,tyW,tyL,tyP8,progOA,Pg.av,Pg.cells,intC,lx,ly,o5,o6,g5,g6,z1,z2,zj,s1,s2,s3,s4,r1,r3,evE,tyX,Bool.not_true,Bool.not_false,Nat.reduceAdd,Nat.reduceSub,Nat.reduceMul,Nat.reduceLT,Nat.reduceLeDiff,Nat.reduceEqDiff,reduceCtorEq,List.reduceReplicate,Int.reduceToNat,Int.reduceLE,Int.reduceLT]
    ·simp only[tyD,tyW,tyL,tyP8,progOA,Pg.av,Pg.cells,intC,lx,ly,o5,o6,g5,g6,z1,z2,zj,s1,s2,s3,s4,r1,r3,t1,t3,t4,evE,tyX,Bool.not_true,Bool.not_false,Nat.reduceAdd,Nat.reduceSub,Nat.reduceMul,Nat.reduceLT,Nat.reduceLeDiff,Nat.reduceEqDiff,reduceCtorEq,List.reduceReplicate,Int.reduceToNat,Int.reduceLE,Int.reduceLT]
     repeat' (with_reducible refine And.intro ?_ ?_)
     any_goals first|exact hu1|exact hu2|exact hu3|exact hu4|exact v1|exact v2|exact v3|exact v4|omega
     refine CallE.pure (CallK.lend c39 _ (fz_pg2 (g:=⟨T1++T2,K1++K2⟩) ?_ ?_) hB rfl ?_)
     ·show fz _ _ _ (slB true (T1++T2).length ((T1++T2).flatMap Tg.cells)) _
      refine fz_own (k:=⟨1,137,T1.flatMap Tg.cells++T2.flatMap Tg.cells⟩) ?_ ?_ ?_ ?_ ?_ (fzL_flat fz_tg _)
      ·exact rfl
      ·exact rfl
      ·first|(rw[a1];done)|(rw[a1];omega)
      ·first|(rw[a1];done)|(rw[a1];omega)
      ·rw[List.flatMap_append]
     ·show fz _ _ _ (slB true (K1++K2).length ((K1++K2).flatMap Kd.cells)) _
      refine fz_own (k:=⟨0,90,K2.flatMap Kd.cells⟩) ?_ ?_ ?_ ?_ ?_ (fzL_flat fz_kd _)
      ·exact rfl
      ·exact rfl
      ·first|(rw[a1];done)|(rw[a1];omega)
      ·first|(rw[a1];done)|(rw[a1];omega)
      ·rw[x3 t3];rfl
     simp only[tyD,tyW,tyL,tyP8,progOA,Pg.av,Pg.cells,intC,lx,ly,o5,o6,g5,g6,z1,z2,zj,s1,s2,s3,s4,r1,r3,evE,tyX,Bool.not_true,Bool.not_false,Nat.reduceAdd,Nat.reduceSub,Nat.reduceMul,Nat.reduceLT,Nat.reduceLeDiff,Nat.reduceEqDiff,reduceCtorEq,List.reduceReplicate,Int.reduceToNat,Int.reduceLE,Int.reduceLT]
   ·simp only[tyD,tyW,tyL,tyP8,progOA,Pg.av,Pg.cells,intC,lx,ly,o5,o6,g5,g6,z1,z2,zj,s1,s2,s3,s4,r1,r3,t1,t3,evE,tyX,Bool.not_true,Bool.not_false,Nat.reduceAdd,Nat.reduceSub,Nat.reduceMul,Nat.reduceLT,Nat.reduceLeDiff,Nat.reduceEqDiff,reduceCtorEq,List.reduceReplicate,Int.reduceToNat,Int.reduceLE,Int.reduceLT]
    repeat' (with_reducible refine And.intro ?_ ?_)
    any_goals first|exact hu1|exact hu2|exact hu3|exact hu4|exact v1|exact v2|exact v3|exact v4|omega
    refine CallE.pure (CallK.lend c39 _ (fz_pg2 (g:=⟨T1++T2,K1++K2⟩) ?_ ?_) hB rfl ?_)
    ·show fz _ _ _ (slB true (T1++T2).length ((T1++T2).flatMap Tg.cells)) _
     refine fz_own (k:=⟨1,137,T1.flatMap Tg.cells++T2.flatMap Tg.cells⟩) ?_ ?_ ?_ ?_ ?_ (fzL_flat fz_tg _)
     ·exact rfl
     ·exact rfl
     ·first|(rw[a1];done)|(rw[a1];omega)
     ·first|(rw[a1];done)|(rw[a1];omega)
     ·rw[List.flatMap_append]
    ·show fz _ _ _ (slB true (K1++K2).length ((K1++K2).flatMap Kd.cells)) _
     refine fz_own (k:=⟨1,90,K1.flatMap Kd.cells++K2.flatMap Kd.cells⟩) ?_ ?_ ?_ ?_ ?_ (fzL_flat fz_kd _)
     ·exact rfl
     ·exact rfl
     ·first|(rw[a1];done)|(rw[a1];omega)
     ·first|(rw[a1];done)|(rw[a1];omega)
     ·rw[List.flatMap_append]
    simp only[tyD,tyW,tyL,tyP8,progOA,Pg.av,Pg.cells,intC,lx,ly,o5,o6,g5,g6,z1,z2,zj,s1,s2,s3,s4,r1,r3,evE,tyX,Bool.not_true,Bool.not_false,Nat.reduceAdd,Nat.reduceSub,Nat.reduceMul,Nat.reduceLT,Nat.reduceLeDiff,Nat.reduceEqDiff,reduceCtorEq,List.reduceReplicate,Int.reduceToNat,Int.reduceLE,Int.reduceLT]
open Go Go.Ev Go.Lib
open Go.ChangeShapes Go.WideShapes Go.ChangeAt Go.RowKit
open Go.ChangeMaps (open_string shut_string)
theorem own:ownKnob Tryz.prog.godebug=none:=by kernel_rfl
theorem laidOut:laidOutB Tryz.prog=true:=by kernel_rfl
abbrev laidL:List (String×DataW Unit):=[("math/bits.deBruijn32tab",Rows.laid_math_bits_deBruijn32tab),("math/bits.deBruijn64tab",Rows.laid_math_bits_deBruijn64tab),("internal/strconv.uint64pow10",Rows.laid_internal_strconv_uint64pow10),("strconv.ErrRange",Rows.laid_strconv_ErrRange),("strconv.ErrSyntax",Rows.laid_strconv_ErrSyntax)]
def bytesOfL:DataW Unit→List Value
 |.agg ds=>ds.map fun|.lit (.int k n)=>.int k n|_=>.nilIface
 |_=>[]
abbrev txtRange:ByteArray:={ data:= #[118,97,108,117,101,32,111,117,116,32,111,102,32,114,97,110,103,101] }
abbrev txtSyntax:ByteArray:={ data:= #[105,110,118,97,108,105,100,32,115,121,110,116,97,120] }
noncomputable abbrev N0:Nat:=(World.settled Tryz.prog default).heap.size
noncomputable def laidWorld(os:Os):World:=
 let N:=(World.settled Tryz.prog os).heap.size
 let w0:=World.holding Tryz.prog os ⟨#[.cells #[.string txtRange] 308,.cells #[.string txtSyntax] 308],#[],[]⟩
 let put (h:Array Obj) (g:Nat) (cs:Array Value):Array Obj:=h.modify g fun
  |.cells _ t frozen=>.cells cs t frozen
  |o=>o
 let h1:=put w0.heap 5 (bytesOfL Rows.laid_math_bits_deBruijn32tab).toArray
 let h2:=put h1 6 (bytesOfL Rows.laid_math_bits_deBruijn64tab).toArray
 let h3:=put h2 4 (bytesOfL Rows.laid_internal_strconv_uint64pow10).toArray
 let h4:=put h3 3 #[.iface 306 (.pointer (some ⟨N,0,none⟩))]
 let h5:=put h4 2 #[.iface 306 (.pointer (some ⟨N+1,0,none⟩))]
 {w0 with heap:=h5 }
theorem pieceLaid(os:Os)(args:Array Value):LaidIn Tryz.prog ((laidWorld os).forCall (fun _ _=>0) ⟨#[],args,[]⟩).memory laidL [5,6,4,3,N0,2,N0+1]:=
 LaidIn.of_run [5,6,4,3,N0,2,N0+1] 8 (by kernel_rfl) (by kernel_rfl) (by kernel_rfl) (by kernel_rfl)
theorem laid_met(os:Os)(args:Array Value):laidMet Tryz.prog laidL ((laidWorld os).forCall (fun _ _=>0) ⟨#[],args,[]⟩).memory:=(pieceLaid os args).met
theorem errRange_cell{W:World}(h:laidMet Tryz.prog laidL W):∃ te pe,W.cell? ⟨3,0,none⟩=some (.iface te pe):=by
 have gR:Tryz.prog.globalNamed "strconv.ErrRange" = some 3:=by kernel_rfl
 obtain⟨a,s,hv,_⟩:=laid_sentinel (n := "strconv.ErrRange") (nm := "*errors.errorString") (ti:=169) (tp:=306) (te:=308) (ts:=9) h.tail.tail.tail gR (by kernel_rfl) Tryz.underlying169
  (fun u hu=>typeName_ptr_named (nm := "errors.errorString") (by kernel_rfl) (by kernel_rfl) (by decide) u hu) Tryz.underlying306 Tryz.underlying308 rfl rfl Tryz.underlying9 (by kernel_rfl) (by kernel_rfl)
 exact⟨306,.pointer (some a),by simpa using World.var?_cell gR hv 0⟩
theorem int_of_shape{P:Program}{w:World}{g:Nat}{t:TypeId}{k:IntKind}{zero:Array Value}(h:w.ShapedOpen P)(hg:g<P.globals.size)
  (h0:((begin P (fun _ _=>0) default).world.heap[g]?).bind Obj.row?=some (zero,t)) (hz:zero.size=1)
  (hb:P.buildable t=true) (hc:P.cellTypes P.depth t=some [t]) (hu:P.underlying t=some (.int k)):∃ n,w.cell? ⟨g,0,none⟩=some (.int k n):=by
 obtain⟨cs,hh,hs,hr⟩:=h.1 g zero t hg h0
 obtain⟨ts,hts,_,hall⟩:=hr hb
 rw[hc]at hts
 cases hts
 have h1:0<cs.size:=by omega
 obtain⟨u,hu',hok⟩:=hall 0 cs[0] (by simp[h1])
 have:u=t:=by simpa using hu'.symm
 subst this
 have hcell:w.cell? ⟨g,0,none⟩=some cs[0]:=by simp[World.cell?,hh,h1]
 rw[hcell]
 unfold Cell.ok at hok
 rw[hu]at hok
 cases hv:cs[0]<;>rw[hv]at hok<;>first|exact hok.elim|(obtain⟨rfl,_⟩:=hok;exact⟨_,rfl⟩)
theorem maxLen_cell{W:World}(h:W.ShapedOpen Tryz.prog):∃ m,W.cell? ⟨1,0,none⟩=some (.int .i64 m):=
 int_of_shape (zero:= #[.int .i64 0]) h (of_decide_eq_true (by kernel_rfl)) (by kernel_rfl) rfl (by kernel_rfl) (by kernel_rfl) Tryz.underlying3
theorem okWide_sl{P:Program}{w:World}{r:Reach}{base:Nat}{t e:TypeId}{v:Value}(ht:P.underlying t=some (.slice e))(h:Value.okWide P w r base t v):
  v=.slice none 0 0∨∃ b off len cap,v=.slice (some ⟨b,off,none⟩) len cap∧len≤cap∧b<w.heap.size:=by
 simp only[Value.okWide,ht,Cell.okWide]at h
 cases v<;>simp_all [Cell.ok]
 rename_i a len cap
 cases a with
 |none=>left;cases len<;>cases cap<;>simp_all
 |some a=>
  right
  have h':len≤cap∧(cap:Int)≤9223372036854775807∧World.has P w r base a e cap:=h
  obtain⟨h1,_,_,hs,row,cells,hsh,_⟩:=h'
  obtain⟨b,off,spot⟩:=a
  simp only at hs hsh
  subst hs
  refine⟨b,off,len,cap,⟨rfl,rfl,rfl⟩,h1,?_⟩
  unfold World.shape? at hsh
  by_cases hb:b<w.heap.size
  ·exact hb
  ·rw[Array.getElem?_eq_none (by omega)]at hsh;cases hsh
theorem rowAV{W:World}{c:Cx}(hcw:c.w=W)(hok:∀ r,r<W.heap.size→c.ok false r){v:Value}{a:Option Addr}{len cap:Nat}{zs:List Int}(hv:v=.slice a len cap)
  (hs:v=.slice none 0 0∨∃ b off len cap,v=.slice (some ⟨b,off,none⟩) len cap∧len≤cap∧b<W.heap.size)
  (hz:zs.length=cap) (hcell:∀ x,a=some x→∀ i,i<zs.length→W.cell? (x.add i)=some (.int .u8 (zs.getD i 0))) (hw:∀ n∈zs,(Lit.int .u8 n).wf=true) :
  ∃ l:List UInt8,l.length=len∧((v=.slice none 0 0∧l=[]∧rel (.v (.slice none 0 0)) c v)∨rel (.sl false l.length l.length (l.map byteC)) c v):=by
 rcases hs with rfl|⟨b,off,len',cap',rfl,h1,h2⟩
 ·cases hv
  exact⟨[],rfl,.inl ⟨rfl,rfl,by simp only[rel]⟩⟩
 ·cases hv
  have hl:((zs.take len).map fun n=>UInt8.ofNat n.toNat).length=len:=by rw[List.length_map,List.length_take];omega
  refine⟨(zs.take len).map fun n=>UInt8.ofNat n.toNat,hl,.inr ?_⟩
  rw[hl]
  simp only[rel]
  refine⟨b,off,cap,rfl,Nat.le_refl _,h1,hok b h2,relAt_of_get fun j x hj=>?_⟩
  simp only[List.map_map,List.getElem?_map,List.getElem?_take]at hj
  split at hj
  ·rename_i hjl
   have hjz:j<zs.length:=by omega
   have hg:zs[j]?=some zs[j]:=by simp[hjz]
   rw[hg]at hj
   simp only[Option.map_some,Option.some.injEq,Function.comp]at hj
   subst hj
   refine⟨.int .u8 (UInt8.ofNat zs[j].toNat).toNat,?_,by simp only[byteC,rel]⟩
   have:=hcell _ rfl j hjz
   have ea:(⟨b,off,none⟩:Addr).add j=⟨b,off+j,none⟩:=by
    simp only[Addr.add]
    by_cases h0:j=0
    ·subst h0;simp
    ·simp[h0]
   rw[ea]at this
   rw[show c.shut.w=W from hcw,this]
   have hw':=hw zs[j] (List.getElem_mem hjz)
   have hzd:zs.getD j 0=zs[j]:=by simp[List.getD,hg]
   rw[hzd]
   have hb:0≤zs[j]∧zs[j]≤255:=by simpa[Lit.wf,IntKind.min,IntKind.max,IntKind.signed,IntKind.bits]using hw'
   have:((UInt8.ofNat zs[j].toNat).toNat:Int)=zs[j]:=by
    rw[UInt8.toNat_ofNat_of_lt' (by show _<256;omega)]
    omega
   rw[this]
  ·simp at hj
def gam(m:Int)(te:TypeId)(pe:Value):List (Nat×AV):=[(1,.ela false [.v (.int .i64 m)]),(3,.ela false [.v (.iface te pe)])]
theorem gam_gl(m:Int)(te:TypeId)(pe:Value):Gl (gam m te pe):=⟨⟨m,rfl⟩,te,pe,rfl⟩
theorem gam_glw(m:Int)(te:TypeId)(pe:Value):GlW (gam m te pe):=by
 intro k
 unfold gam
 simp only[Go.Ev.look]
 split
 ·exact .inr ⟨_,rfl⟩
 ·split
  ·exact .inr ⟨_,rfl⟩
  ·exact .inl rfl
theorem gam_ok{m:Int}{te:TypeId}{pe:Value}{W:World}(h1:W.cell? ⟨1,0,none⟩=some (.int .i64 m))(h4:W.cell? ⟨3,0,none⟩=some (.iface te pe)):glOK (gam m te pe) W:=by
 have lt:∀ g u,W.cell? ⟨g,0,none⟩=some u→g<W.heap.size:=fun g u h=>by
  by_cases hg:g<W.heap.size
  ·exact hg
  ·unfold World.cell? at h
   simp only[Array.getElem?_eq_none (Nat.le_of_not_lt hg)]at h
   cases h
 intro k x e
 unfold gam at e
 simp only[Go.Ev.look]at e
 split at e
 ·rename_i hk;subst hk
  simp only[AV.ela.injEq,List.cons.injEq,AV.v.injEq,and_true,true_and]at e
  subst e
  exact⟨lt _ _ h1,h1⟩
 ·split at e
  ·rename_i hk;subst hk
   simp only[AV.ela.injEq,List.cons.injEq,AV.v.injEq,and_true,true_and]at e
   subst e
   exact⟨lt _ _ h4,h4⟩
  ·cases e
theorem calls_of_ev{f:FuncId}{args:List AV}{res:AV}{m:Int}{te:TypeId}{pe:Value}{W:World}{vs:Array Value}(h:Ev Tryz.prog (gam m te pe) f args res)
  (h1:W.cell? ⟨1,0,none⟩=some (.int .i64 m)) (h4:W.cell? ⟨3,0,none⟩=some (.iface te pe)) (hr:relL args (cx0 Tryz.prog (fun _=>False) (fun _=>False) W) vs.toList) :
  Calls Tryz.prog f vs W fun e w'=>∃ u,e=.returned u∧rel res (cx0 Tryz.prog (fun _=>False) (fun _=>False) w') u∧Below W.heap.size W w':=
 h _ _ W vs (fun _ h=>h.elim) (fun k=>gl_rel (c:=cx0 Tryz.prog (fun _=>False) (fun _=>False) W) (gam_glw m te pe) (gam_ok h1 h4) rfl (fun r hr=>⟨hr,fun h=>h⟩) k) hr
theorem bulk_lits{H:Type}(k:IntKind):∀ zs:List Int,Rows.uptoBulkAll (lits (H:=H) k zs)=zs.length
 |[]=>rfl
 |z::zs=>by
  have:=bulk_lits (H:=H) k zs
  simp only[lits,List.map_cons,Rows.uptoBulkAll,Rows.uptoBulk,List.length_cons]at this⊢
  omega
set_option maxRecDepth 100000 in
theorem open_txt{H:Type}{enc:TypeId×Value→H}{W:World}{base:Nat}{v:Value}{d:DataW H}{p:List MemPlace}(hv:Value.okWide Tryz.prog W .any base 37 v)(h0:DataW.Trod enc Tryz.prog W 0 (fun _=>true) true 37 v d p):
  ∃ x l,TxtQ x l∧rel x (cx0 Tryz.prog (fun _=>False) (fun _=>False) W) v∧l.length≤Rows.uptoBulk d:=by
 let c:Cx:=cx0 Tryz.prog (fun _=>False) (fun _=>False) W
 have hs0:=okWide_sl Tryz.underlying37 hv
 obtain⟨a0,len0,cap0,hv0⟩:=okWide_slice Tryz.underlying37 hv
 rw[hv0]at h0
 obtain⟨fuel,hf⟩:=h0
 rcases open_ints Tryz.underlying37 Tryz.underlying5 (by kernel_rfl) hf with⟨hcs,_⟩|⟨x,l,cp,zs,hcs,_,hl,hm,hz,hd,hcell,hwz⟩
 ·simp[Value.cells]at hcs
  obtain⟨rfl,rfl,rfl⟩:=hcs
  exact⟨_,[],txt_nil,by simp only[rel];exact hv0,Nat.zero_le _⟩
 ·simp[Value.cells]at hcs
  obtain⟨rfl,rfl,rfl⟩:=hcs
  have hz':zs.length=cap0:=by simpa using hz
  have hb:len0≤Rows.uptoBulk d:=by
   have hd1:=congrArg Prod.fst hd
   simp only at hd1
   rw[hd1]
   simp only[Rows.uptoBulk,bulk_lits,List.length_take]
   omega
  obtain⟨l,hl,hr⟩:=rowAV (c:=c) rfl (fun r hr=>⟨hr,by simp⟩) hv0 hs0 (by simpa using hz) (fun y hy=>by cases hy;exact hcell) hwz
  rcases hr with⟨hn,rfl,hr⟩|hr
  ·exact⟨_,[],txt_nil,hr,Nat.zero_le _⟩
  ·exact⟨_,l,txt_sl false l,hr,by omega⟩
namespace declJoins
set_option maxRecDepth 100000 in
theorem contract(H:Type)(enc:TypeId×Value→H)(W:World)(base:Nat)(args:Array Value)(ds gs:List (DataW H))(before:List MemPlace)
  (hval:∀ (j:Nat) t v,Tryz.f8.params[j]?=some t→args[j]?=some v→Value.okWide Tryz.prog W .any base t v)
  (hW:DataW.Whole enc Tryz.prog Tryz.f8.params.toList Rows.declJoinsSpec.vars false W args.toList ds gs before)
  (hb:Rows.uptoBulkAll (ds++gs)≤1048576)
  (hL:laidMet Tryz.prog laidL W) (hS:W.ShapedOpen Tryz.prog) :
  Calls Tryz.prog 8 args W fun e W'=>∃ v,e=.returned v∧Rows.declJoinsSpec.post enc Tryz.prog Tryz.f8 false true false false W args v W':=by
 have hW':=hW
 obtain⟨p,q,hA0,hV,rfl,hfz,hnd⟩:=hW
 have hA:DataW.TrodAll enc Tryz.prog W 0 (fun _=>true) true Tryz.f8.params.toList args.toList ds p:=hA0
 rw[Tryz.params8]at hA hval
 obtain⟨v0,vs0,d0,ds0,p0,q0,hargs,rfl,rfl,h0,r0⟩:=trodAll_cons hA
 obtain⟨v1,vs1,d1,ds1,p1,q1,rfl,rfl,rfl,h1,r1⟩:=trodAll_cons r0
 obtain⟨rfl,rfl,rfl⟩:=trodAll_nil r1
 obtain rfl:args = #[v0,v1]:=by cases args;simp_all
 obtain⟨rfl,rfl⟩:=trodVars_none hV
 have k0:=h0
 have k1:=h1
 have lt0:∀ x∈p0,x.block<W.heap.size:=by obtain⟨m,hm⟩:=k0;exact DataW.trod_lt m _ _ _ hm
 have lt1:∀ x∈p1,x.block<W.heap.size:=by obtain⟨m,hm⟩:=k1;exact DataW.trod_lt m _ _ _ hm
 have e:Rows.uptoBulkAll ([d0,d1]++([]:List (DataW H)))=Rows.uptoBulk d0+(Rows.uptoBulk d1+0):=by simp only[List.cons_append,List.nil_append,Rows.uptoBulkAll]
 rw[e]at hb
 obtain⟨x0,l0,hx0,hr0,hl0⟩:=open_txt (hval 0 37 v0 rfl rfl) h0
 obtain⟨x1,l1,hx1,hr1,hl1⟩:=open_txt (hval 1 37 v1 rfl rfl) h1
 clear hA0 e
 obtain⟨m,hm⟩:=maxLen_cell hS
 obtain⟨te,pe,hpe⟩:=errRange_cell hL
 have hcalls:Calls Tryz.prog 8 #[v0,v1] W fun e w'=>∃ u,e=.returned u∧rel (.v (.bool true)) (cx0 Tryz.prog (fun _=>False) (fun _=>False) w') u∧Below W.heap.size W w':=by
  refine calls_of_ev (declJoins_ev (gam_gl m te pe) (gam_glw m te pe) hx0 hx1 (by omega) (by omega) (by omega)) hm hpe ?_
  simp only[relL]
  exact⟨_,_,rfl,hr0,_,_,rfl,hr1,rfl⟩
 refine hcalls.mono fun e W' ⟨u,he,hu,bel⟩=>?_
 simp only[rel]at hu
 subst he
 subst hu
 exact⟨_,rfl,_,_,_,[],_,[],hW',trodAll_mk1 (shut_bool Tryz.underlying4 _),(trodAll_cons_mk (Below.trod laidOut (by kernel_rfl) (of_decide_eq_true (by kernel_rfl)) k0 bel lt0) (trodAll_cons_mk (Below.trod laidOut (by kernel_rfl) (of_decide_eq_true (by kernel_rfl)) k1 bel lt1) trodAll_mk0)),rfl,bel.frame _,fun h=>by cases h⟩
theorem witness_row(os:Os){H:Type}(enc:TypeId×Value→H):(Rows.OpenSpec.upto Rows.declJoinsSpec).preRow enc Tryz.prog Tryz.f8 Rows.declJoinsUptoRow.domain false Rows.declJoinsUptoRow.laid ((laidWorld os).forCall (fun _ _=>0) ⟨#[],#[.slice none 0 0,.slice none 0 0],[]⟩).memory #[.slice none 0 0,.slice none 0 0]:=by
 have hw:((DataW.whole enc Tryz.prog ((laidWorld os).forCall (fun _ _=>0) ⟨#[],#[.slice none 0 0,.slice none 0 0],[]⟩).memory Tryz.f8.params.toList Rows.declJoinsSpec.vars false #[Value.slice none 0 0,.slice none 0 0].toList 8).map (fun x=>(x.1,x.2.1)))=some ([.nil,.nil],[]):=by kernel_rfl
 obtain⟨⟨x1,x2,x3⟩,hx',hx1⟩:=Option.map_eq_some_iff.1 hw
 obtain⟨rfl,rfl⟩:x1=[.nil,.nil]∧x2=[]:=by simpa using hx1
 exact OpenSpec.preRow_of_cond 8 hx' (by kernel_rfl) (fun k hk=>by cases hk;kernel_rfl) (by kernel_rfl) (laid_met os _)
set_option maxRecDepth 100000 in
theorem lifted(os:Os)(started:os.Started)(H:Type)(enc:TypeId×Value→H)(F:Stop.Interp):
  ReturnsInHanded {} Tryz.checked os 8 .any ((Rows.OpenSpec.upto Rows.declJoinsSpec).preRow enc Tryz.prog Tryz.f8 Rows.declJoinsUptoRow.domain false Rows.declJoinsUptoRow.laid) (((Rows.OpenSpec.upto Rows.declJoinsSpec).at F).post enc Tryz.prog Tryz.f8 false true false false):=by
 refine returnsInHanded_of_row (C:=Tryz.checked) (s:=Rows.OpenSpec.upto Rows.declJoinsSpec) own started (by kernel_rfl) Tryz.func8
  (witness_row_atRef (enc:=enc) (C:=Tryz.checked) false (laidWorld os) #[.slice none 0 0,.slice none 0 0] rfl (by kernel_rfl) (by kernel_rfl) (by kernel_rfl) (witness_row os enc)) ?_
 intro W base args ds gs before hval hW _ hcond hsz hL hS _
 exact contract H enc W base args ds gs before hval hW (of_decide_eq_true (hcond _ rfl)) hL hS
theorem facts1:(Rows.declJoinsUptoRow.inPlace==Tryz.prog.inPlace 8)=true:=by kernel_rfl
theorem facts2:(Rows.declJoinsUptoRow.unfollowed==Tryz.prog.unfollowed 8)=true:=by kernel_rfl
theorem facts3:(Rows.declJoinsUptoRow.recurses==Tryz.prog.recurses 8)=true:=by kernel_rfl
theorem facts4:(Rows.declJoinsUptoRow.named==Tryz.prog.varsNamed 8)=true:=by kernel_rfl
theorem facts:joinedFacts Tryz.prog 8 Tryz.f8 (Rows.OpenSpec.upto Rows.declJoinsSpec).bare Rows.declJoinsUptoRow=true:=by
 unfold joinedFacts
 rw[facts1,facts2,facts3,facts4]
 kernel_rfl
theorem said:Rows.DeclJoinsUptoSaid:=
 OpenClaim.holds_of_cond 8 Tryz.f8 rfl rfl rfl rfl rfl rfl rfl ⟨rfl,rfl,rfl,rfl,rfl⟩ rfl rfl rfl rfl rfl (by kernel_rfl) Tryz.func8 facts
  (of_decide_eq_true (by kernel_rfl)) (by unfold Func.isWrapper;first|(rw[if_pos (by decide +kernel)];kernel_rfl)|(rw[if_neg (by decide +kernel)];exact⟨rfl,rfl⟩))
  (fun os started H enc _ F=>by rw[OpenClaim.pre_eq_preRow];exact lifted os started H enc F)
theorem plain(f:FuncId)(fn:Func)(hf:Tryz.pinned.checked.prog.funcNamed "chordmail/chordmaillaw08.DeclJoins" = some f)(hfn:Tryz.pinned.checked.prog.funcs[f]?=some fn):
  true=Tryz.pinned.checked.prog.looks []∧∀ (j:Nat) t,fn.params[j]?=some t→Tryz.pinned.checked.prog.wantsStandIn t=false:=by
 obtain rfl:f=8:=Option.some.inj ((show Tryz.prog.funcNamed "chordmail/chordmaillaw08.DeclJoins" = some 8 by kernel_rfl).symm.trans hf) |>.symm
 obtain rfl:fn=Tryz.f8:=(Option.some.inj (Tryz.func8.symm.trans hfn)).symm
 refine⟨by kernel_rfl,fun j t ht=>?_⟩
 rw[Tryz.params8]at ht
 have hm:t=37:=by simpa using Array.mem_of_getElem? ht
 subst hm
 exact (show Tryz.prog.wantsStandIn 37=false by kernel_rfl)
end declJoins
theorem declJoins_holds:Rows.DeclJoinsUptoCardSaid:=
 Claim7.holds_tied_plain_at .later [] _ _ _ _ declJoins.said (fun _ h=>by cases h) (by kernel_rfl) (fun _ h=>by cases h) declJoinsUpto_row_tie rfl ⟨rfl,rfl⟩ (by kernel_rfl) rfl declJoins.plain (by kernel_rfl)
#print axioms declJoins_holds
end Go.Proofs.YtlobiioioicmhaaGreatDoor
