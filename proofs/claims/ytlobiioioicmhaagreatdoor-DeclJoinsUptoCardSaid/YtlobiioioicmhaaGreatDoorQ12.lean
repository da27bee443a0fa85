/- Contracts of the functions that the law reaches. -/
import Derived.Test.YtlobiioioicmhaaGreatDoorQ11
set_option linter.all false
namespace Go.Proofs.YtlobiioioicmhaaGreatDoor
open Go Go.Ev
set_option maxRecDepth 20000
variable {γ:List (Nat×AV)} {ts:List Tk} {L:AV}
theorem c137:bodyT Tryz.prog 137:=⟨_,Tryz.func137,by kernel_rfl,by kernel_rfl⟩
def encI(x:Int):List AV:=[intC x]
set_option maxHeartbeats 4000000 in
theorem dtag1_ev(E:EnvD γ L ts){i n n0 b rb p:Nat}{h:List ABlk}{nm:List UInt8}{xs:List Int}(hp:p≤ts.length)(hr:RD h i L p n)(hB:BoxL i n0 b rb 137 [strC nm] 3 1 encI h xs)(hxs:(xs.length+1) * 8≤140737488355328):
  EvM Tryz.prog γ 204 [.ptr rb 0 0,.ptr b 0 0] h (ResS (IN i b n0) ts n L i h (fun x a h'=>a=.tup []∧BoxL i n0 b rb 137 [strC nm] 3 1 encI h' (xs++[x])) (kindD ts p)):=by
 obtain⟨N,hB'⟩:=hB
 have hB2:=hB'
 obtain⟨a1,a2,a3,a4,a5,a6,a7,a8,a9,a10⟩:=hB2
 have hi:h[i]?=_:=hr
 have ll:=E.len
 refine EvM.of Tryz.func204 rfl ?_
 by_cases hlt:p<ts.length
 ·obtain⟨bb,m,cs,rfl,hcs⟩:=E.sl hlt
  obtain⟨t,ht⟩:∃ t,ts[p]?=some t:=⟨ts[p],by simp[hlt]⟩
  have h6l:=LAt.len hcs hlt
  have h0:cs[p * 6]?=some (.v (.int .i64 t.kind)):=LAt.cell (b:=bb) hcs ht (k:=0) (by decide)
  have h1:cs[p * 6+1]?=_:=LAt.cell (b:=bb) hcs ht (k:=1) (by decide)
  have d1:((p:Int)==(ts.length:Int))=false:=by simp only[beq_eq_false_iff_ne,ne_eq];omega
  have hK:kindD ts p=if t.kind=1∧(typeF t.text).2=true∧(typeF t.text).1≠5 then .ok (typeF t.text).1 (p+1)else .bad p 80:=by unfold kindD;rw[ht]
  rw[hK]
  by_cases hk:t.kind=1
  ·have dk:(t.kind != 1)=false:=by simp[hk]
   have hty:=type_ev (γ:=γ) t.text
   simp only[Tryz.f204,tyD,a8,evE,tyX,Bool.not_true,Bool.not_false,Nat.reduceAdd,Nat.reduceSub,Nat.reduceMul,Nat.reduceLT,Nat.reduceLeDiff,Nat.reduceEqDiff,reduceCtorEq,List.reduceReplicate,Int.reduceToNat,Int.reduceLE,Int.reduceLT]
   refine DrawK.intro (by kernel_rfl) (by kernel_rfl) ?_
   simp only[tyD,a8,hi,ll,d1,h0,h1,dk,Tk.cells,evE,tyX,Bool.not_true,Bool.not_false,Nat.reduceAdd,Nat.reduceSub,Nat.reduceMul,Nat.reduceLT,Nat.reduceLeDiff,Nat.reduceEqDiff,reduceCtorEq,List.reduceReplicate,Int.reduceToNat,Int.reduceLE,Int.reduceLT]
   refine⟨hlt,?_⟩
   refine DrawK.intro (by kernel_rfl) (by kernel_rfl) ?_
   simp only[tyD,a8,hi,ll,h0,h1,Tk.cells,evE,tyX,Bool.not_true,Bool.not_false,Nat.reduceAdd,Nat.reduceSub,Nat.reduceMul,Nat.reduceLT,Nat.reduceLeDiff,Nat.reduceEqDiff,reduceCtorEq,List.reduceReplicate,Int.reduceToNat,Int.reduceLE,Int.reduceLT]
   refine⟨hlt,CallK.intro c14 rfl hty ?_⟩
   generalize typeF t.text=R
   obtain⟨k,ok⟩:=R
   cases ok with
   |false=>
    rw[if_neg (fun h=>by cases h.2.1)]
    simp only[tyD,a8,typA,evE,tyX,Bool.not_true,Bool.not_false,Nat.reduceAdd,Nat.reduceSub,Nat.reduceMul,Nat.reduceLT,Nat.reduceLeDiff,Nat.reduceEqDiff,reduceCtorEq,List.reduceReplicate,Int.reduceToNat,Int.reduceLE,Int.reduceLT]
    refine CallE.intro c127 _ (dfail_ev E hr 80) (fun r h2 hh=>by cases hh.1) (fun v h2 hh=>?_)
    obtain⟨e,rfl⟩:=hh
    cases e
    exact⟨Fr.refl _ _,rfl⟩
   |true=>
    by_cases h5:k=5
    ·have d5:(k==5)=true:=by simp[h5]
     rw[if_neg (fun h=>h.2.2 h5)]
     simp only[tyD,a8,typA,d5,evE,tyX,Bool.not_true,Bool.not_false,Nat.reduceAdd,Nat.reduceSub,Nat.reduceMul,Nat.reduceLT,Nat.reduceLeDiff,Nat.reduceEqDiff,reduceCtorEq,List.reduceReplicate,Int.reduceToNat,Int.reduceLE,Int.reduceLT]
     refine CallE.intro c127 _ (dfail_ev E hr 80) (fun r h2 hh=>by cases hh.1) (fun v h2 hh=>?_)
     obtain⟨e,rfl⟩:=hh
     cases e
     exact⟨Fr.refl _ _,rfl⟩
    ·have d5:(k==5)=false:=by simp[h5]
     rw[if_pos ⟨hk,rfl,h5⟩]
     have hn:=E.n
     have w1:IntKind.i64.wrap ((p:Int)+1)=((p+1:Nat):Int):=(i64w (by omega) (by omega)).trans (by omega)
     obtain⟨x,hx⟩:∃ x,x=k:=⟨_,rfl⟩
     rw[←hx]at d5⊢
     have f1:Fr (IsI i) h (h.set i ⟨0,199,[.sl bb ts.length m cs,.v (.int .i64 ((p+1:Nat):Int)),.v (.int .i64 (n:Int))]⟩):=Fr.set _ rfl
     have r1:RD (h.set i ⟨0,199,[.sl bb ts.length m cs,.v (.int .i64 ((p+1:Nat):Int)),.v (.int .i64 (n:Int))]⟩) i (.sl bb ts.length m cs) (p+1) n:=hr.set (p+1)
     obtain⟨h1,ee⟩:∃ h1,h.set i ⟨0,199,[.sl bb ts.length m cs,.v (.int .i64 ((p+1:Nat):Int)),.v (.int .i64 (n:Int))]⟩=h1:=⟨_,rfl⟩
     rw[ee]at f1 r1
     obtain⟨b1,b2,b3,b4,b5,b6,b7,b8,b9,b10⟩:=hB'.fr f1
     all_goals have hbl:=(List.getElem?_eq_some_iff.1 b9).1
     all_goals have hrl:=r1.lt
     all_goals have g7:∀ l,(h1++l)[b]?=some ⟨0,137,[strC nm,N]⟩:=fun l=>(List.getElem?_append_left hbl).trans b9
     all_goals have s6:∀ l c,(h1++l).set b c=h1.set b c++l:=fun l c=>List.set_append_left _ _ hbl
     all_goals have he:RdL (fun k=>k<n0∨nbk N k) h1 [intC x] [intC x]:=RdL.cons (Rd.int x) RdL.nil
     all_goals have hxe:(xs++[x]).length=xs.length+1:=by simp
     all_goals have hxf:(xs++[x]).flatMap encI=xs.flatMap encI++[intC x]:=by simp[encI]
     all_goals have hB3:=hB'.fr f1
     all_goals rcases b10 with⟨rfl,e0,e1⟩|⟨j,ver,cs,rfl,hn,hj0,hj,hl,hrd⟩
     all_goals first
      |(have e0':=e0
        simp only[tyD,a8,hi,typA,d5,w1,ee,b8,b9,g7,at_len,at_len1,s6,List.nil_append,List.append_assoc,List.cons_append,strC,intC,evE,tyX,Bool.not_true,Bool.not_false,Nat.reduceAdd,Nat.reduceSub,Nat.reduceMul,Nat.reduceLT,Nat.reduceLeDiff,Nat.reduceEqDiff,reduceCtorEq,List.reduceReplicate,Int.reduceToNat,Int.reduceLE,Int.reduceLT]
        obtain⟨k1,k2⟩:=hB3.push (h':=h1.set b ⟨0,137,[strC nm,.own (h1.length+1) 0 1]⟩++[⟨0,3,[intC x]⟩,⟨0,3,[intC x]⟩]) (j':=h1.length+1) (ver':=0) (cs:=[]) (es:=[intC x]) (ecs:=[intC x]) (fun j ver e=>by cases e) (fun _=>⟨by omega,rfl⟩) ((Fr.set _ (.inl rfl)).trans (Fr.app (S:=NoB) _ _) fun k e=>e.elim) (at_lenS1 _ _ _ _ _ _) (by rw[e0];exact (List.getElem?_append_left (by rw[List.length_set];exact hbl)).trans (List.getElem?_set_self hbl)) rfl he
        rw[e0]at k1
        refine⟨(IN.i f1).trans k2 fun k e=>.inl e,_,rfl,?_,rfl,.own (h1.length+1) 0 1,?_⟩
        ·exact (List.getElem?_append_left (by rw[List.length_set];exact hrl)).trans ((List.getElem?_set_ne a5.symm).trans r1)
        ·rw[hxe,hxf,e0];exact k1)
      |(have hjl:=(List.getElem?_eq_some_iff.1 hj).1
        have hjb:j≠b:=by omega
        have hji:j≠i:=by omega
        have q1:∀ l,(h1++l)[j]?=some ⟨ver,3,cs⟩:=fun l=>(List.getElem?_append_left hjl).trans hj
        have s8:∀ l c,(h1++l).set j c=h1.set j c++l:=fun l c=>List.set_append_left _ _ hjl
        have g9:∀ l c,(h1.set j c++l)[b]?=some ⟨0,137,[strC nm,.own j ver xs.length]⟩:=fun l c=>(List.getElem?_append_left (by rw[List.length_set];exact hbl)).trans ((List.getElem?_set_ne hjb).trans b9)
        have s9:∀ l c d,(h1.set j c++l).set b d=(h1.set j c).set b d++l:=fun l c d=>List.set_append_left _ _ (by rw[List.length_set];exact hbl)
        have hl':cs.length=xs.length * 1:=by omega
        have q4:List.take (xs.length * 1) cs=cs:=List.take_of_length_le (by omega)
        have q6:xs.length * 1≤cs.length:=by omega
        simp only[Nat.mul_one]at q4 q6
        simp only[tyD,a8,hi,typA,d5,w1,ee,b8,b9,g7,at_len,at_len1,s6,List.nil_append,List.append_assoc,List.cons_append,strC,intC,q1,s8,g9,s9,q4,q6,evE,tyX,Bool.not_true,Bool.not_false,Nat.reduceAdd,Nat.reduceSub,Nat.reduceMul,Nat.reduceLT,Nat.reduceLeDiff,Nat.reduceEqDiff,reduceCtorEq,List.reduceReplicate,Int.reduceToNat,Int.reduceLE,Int.reduceLT]
        obtain⟨k1,k2⟩:=hB3.push (h':=(h1.set j ⟨ver+1,3,cs++[intC x]⟩).set b ⟨0,137,[strC nm,.own j (ver+1) (xs.length+1)]⟩++[⟨0,3,[intC x]⟩]) (j':=j) (ver':=ver+1) (cs:=cs) (es:=[intC x]) (ecs:=[intC x]) (fun j2 ver2 e=>by cases e;exact⟨rfl,hj⟩) (fun e=>by cases e) (((Fr.set (S:=fun k=>k=b∨nbk (.own j ver xs.length) k) _ (.inr rfl)).trans (Fr.set (S:=fun k=>k=b∨nbk (.own j ver xs.length) k) _ (.inl rfl)) fun k e=>.inl e).trans (Fr.app (S:=NoB) _ _) fun k e=>e.elim) ((List.getElem?_append_left (by rw[List.length_set,List.length_set];exact hjl)).trans ((List.getElem?_set_ne hjb.symm).trans (List.getElem?_set_self hjl))) ((List.getElem?_append_left (by rw[List.length_set,List.length_set];exact hbl)).trans (List.getElem?_set_self (by rw[List.length_set];exact hbl))) rfl he
        refine⟨hxs,(IN.i f1).trans k2 fun k e=>.inl e,_,rfl,?_,rfl,.own j (ver+1) (xs.length+1),?_⟩
        ·exact (List.getElem?_append_left (by rw[List.length_set,List.length_set];exact hrl)).trans ((List.getElem?_set_ne a5.symm).trans ((List.getElem?_set_ne hji).trans r1))
        ·rw[hxe,hxf];exact k1)
  ·have dk:(t.kind != 1)=true:=by simp[hk]
   rw[if_neg (fun h=>hk h.1)]
   simp only[Tryz.f204,tyD,a8,evE,tyX,Bool.not_true,Bool.not_false,Nat.reduceAdd,Nat.reduceSub,Nat.reduceMul,Nat.reduceLT,Nat.reduceLeDiff,Nat.reduceEqDiff,reduceCtorEq,List.reduceReplicate,Int.reduceToNat,Int.reduceLE,Int.reduceLT]
   refine DrawK.intro (by kernel_rfl) (by kernel_rfl) ?_
   simp only[tyD,a8,hi,ll,d1,h0,h1,dk,Tk.cells,evE,tyX,Bool.not_true,Bool.not_false,Nat.reduceAdd,Nat.reduceSub,Nat.reduceMul,Nat.reduceLT,Nat.reduceLeDiff,Nat.reduceEqDiff,reduceCtorEq,List.reduceReplicate,Int.reduceToNat,Int.reduceLE,Int.reduceLT]
   refine⟨hlt,CallE.intro c127 _ (dfail_ev E hr 80) (fun r h2 hh=>by cases hh.1) (fun v h2 hh=>?_)⟩
   obtain⟨e,rfl⟩:=hh
   cases e
   exact⟨Fr.refl _ _,rfl⟩
 ·have d1:((p:Int)==(ts.length:Int))=true:=by simp only[beq_iff_eq];omega
  have hK:kindD ts p=.bad p 80:=by unfold kindD;rw[List.getElem?_eq_none (by omega)]
  rw[hK]
  simp only[Tryz.f204,tyD,a8,evE,tyX,Bool.not_true,Bool.not_false,Nat.reduceAdd,Nat.reduceSub,Nat.reduceMul,Nat.reduceLT,Nat.reduceLeDiff,Nat.reduceEqDiff,reduceCtorEq,List.reduceReplicate,Int.reduceToNat,Int.reduceLE,Int.reduceLT]
  refine DrawK.intro (by kernel_rfl) (by kernel_rfl) ?_
  simp only[tyD,a8,hi,ll,d1,evE,tyX,Bool.not_true,Bool.not_false,Nat.reduceAdd,Nat.reduceSub,Nat.reduceMul,Nat.reduceLT,Nat.reduceLeDiff,Nat.reduceEqDiff,reduceCtorEq,List.reduceReplicate,Int.reduceToNat,Int.reduceLE,Int.reduceLT]
  refine CallE.intro c127 _ (dfail_ev E hr 80) (fun r h2 hh=>by cases hh.1) (fun v h2 hh=>?_)
  obtain⟨e,rfl⟩:=hh
  cases e
  exact⟨Fr.refl _ _,rfl⟩
def Tg.av(t:Tg):AV:=.agg t.cells
theorem intsA_eq(xs:List Int):slA xs.length (xs.flatMap encI)=intsA xs:=by
 have:xs.flatMap encI=xs.map intC:=by
  induction xs with
  |nil=>rfl
  |cons x xs ih=>rw[List.flatMap_cons,ih];rfl
 rw[this];rfl
set_option maxHeartbeats 1000000 in
theorem dtag_ev(E:EnvD γ L ts){h:List ABlk}{i p n:Nat}(hp:p≤ts.length)(hr:RD h i L p n):
  EvM Tryz.prog γ 137 [.ptr i 0 0] h (ResD ts n L i h (RdA Tg.av h.length) (tagD ts p)):=by
 have hil:=hr.lt
 have hn:=E.n
 refine EvM.of Tryz.func137 rfl ?_
 simp only[Tryz.f137,tyD,at_len,at_len1,List.append_assoc,List.cons_append,List.nil_append,evE,tyX,Bool.not_true,Bool.not_false,Nat.reduceAdd,Nat.reduceSub,Nat.reduceMul,Nat.reduceLT,Nat.reduceLeDiff,Nat.reduceEqDiff,reduceCtorEq,List.reduceReplicate,Int.reduceToNat,Int.reduceLE,Int.reduceLT]
 refine callD c129 (dword_ev E hp (hr.app _)) (fun nm p1 a h1 e f1 r1 hA=>?_) (fun q e' h1 e f1=>?_)
 rotate_left
 ·unfold tagD
  rw[e]
  exact⟨f1.pre,rfl⟩
 have adv1:=word_adv hp
 rw[e]at adv1
 obtain⟨_,hp1⟩:=adv1
 have eD:tagD ts p=(listD ts (kindD ts) p1).bind fun l p2=>(wantD ts [59] p2).bind fun _ p3=>.ok ⟨nm,l⟩ p3:=by unfold tagD;rw[e];rfl
 rw[eD]
 subst hA
 have k0:h1[h.length]?=some ⟨0,127,[.ptr i 0 0]⟩:=f1.at (at_len _ _ _) (fun e=>by have e:h.length=i:=e;omega)
 have k1:h1[h.length+1]?=some ⟨0,137,[strC [],.v (.slice none 0 0)]⟩:=f1.at (at_len1 _ _ _ _) (fun e=>by have e:h.length+1=i:=e;omega)
 have hl1:=(List.getElem?_eq_some_iff.1 k1).1
 have g0:∀ l,(h1++l)[h.length]?=some ⟨0,127,[.ptr i 0 0]⟩:=fun l=>(List.getElem?_append_left (by omega)).trans k0
 simp only[tyD,k0,g0,strC,at_len,set_len,List.append_assoc,List.cons_append,List.nil_append,evE,tyX,Bool.not_true,Bool.not_false,Nat.reduceAdd,Nat.reduceSub,Nat.reduceMul,Nat.reduceLT,Nat.reduceLeDiff,Nat.reduceEqDiff,reduceCtorEq,List.reduceReplicate,Int.reduceToNat,Int.reduceLE,Int.reduceLT]
 have hlist:=dlisted_ev (b:=h1.length) (n0:=h1.length+1) E (I:=kindD ts) (fun p hp=>kind_adv hp) (Φ:=BoxL i (h1.length+1) h1.length h.length 137 [strC nm] 3 1 encI) (fs:=[]) (cs:=[.ptr h.length 0 0,.ptr h1.length 0 0]) c204
  (fun h h1 xs a f=>a.fr f) (fun h p xs hp hx hr hB=>dtag1_ev E hp hr hB (by omega)) hp1 (r1.app [⟨0,137,[strC nm,.v (.slice none 0 0)]⟩]) ⟨.v (.slice none 0 0),by omega,by omega,by omega,by omega,by omega,by omega,by simp,g0 _,at_len _ _ _,GL.nil⟩
 refine callSE c200 hlist (fun xs q a h2 e2 f2 r2 hA=>?_) (fun q e' h2 e2 f2=>?_)
 rotate_left
 ·rw[e2]
  exact⟨f1.pre.trans (f2.drop (by omega) (by omega)) fun k e=>.inl e,rfl⟩
 have adv2:=list_adv (ts:=ts) (I:=kindD ts) (fun _=>kind_adv) hp1
 rw[e2]at adv2⊢
 have eD2:(DR.ok xs q).bind (fun l p2=>(wantD ts [59] p2).bind fun _ p3=>DR.ok (⟨nm,l⟩:Tg) p3)=(wantD ts [59] q).bind fun _ p3=>.ok ⟨nm,xs⟩ p3:=rfl
 rw[eD2]
 obtain⟨rfl,hB2⟩:=hA
 have b8':h2[h.length]?=some ⟨0,127,[.ptr i 0 0]⟩:=by obtain⟨_,_,_,_,_,_,_,_,b8,_⟩:=hB2;exact b8
 have k2:h2[h.length+1]?=some ⟨0,137,[strC [],.v (.slice none 0 0)]⟩:=f2.at ((List.getElem?_append_left (by omega)).trans k1) (fun e=>by rcases e with e|e|e<;>omega)
 simp only[tyD,b8',strC,List.cons_append,List.nil_append,evE,tyX,Bool.not_true,Bool.not_false,Nat.reduceAdd,Nat.reduceSub,Nat.reduceMul,Nat.reduceLT,Nat.reduceLeDiff,Nat.reduceEqDiff,reduceCtorEq,List.reduceReplicate,Int.reduceToNat,Int.reduceLE,Int.reduceLT]
 refine callD c128 (dwant_ev E adv2.2 r2 [59]) (fun x q3 a h3 e3 f3 r3 hA=>?_) (fun q' e' h3 e3 f3=>?_)
 rotate_left
 ·rw[e3]
  exact⟨(f1.pre.trans (f2.drop (by omega) (by omega)) fun k e=>.inl e).trans f3 fun k e=>.inl e,rfl⟩
 rw[e3]
 subst hA
 obtain⟨N,b1,b2,b3,b4,b5,b6,b7,b8,b9,b10⟩:=hB2.fr f3
 have hbl:=(List.getElem?_eq_some_iff.1 b9).1
 obtain⟨oN,fN⟩:=b10.one
 have k3:=f3.at k2 (fun e=>by have e:h.length+1=i:=e;omega)
 have s5:∀ c,(h3.set (h.length+1) c)[h.length+1]?=some c:=fun c=>List.getElem?_set_self (List.getElem?_eq_some_iff.1 k3).1
 simp only[tyD,b9,k3,s5,fN,oN,setMany,strC,List.cons_append,List.nil_append,evE,tyX,Bool.not_true,Bool.not_false,Nat.reduceAdd,Nat.reduceSub,Nat.reduceMul,Nat.reduceLT,Nat.reduceLeDiff,Nat.reduceEqDiff,reduceCtorEq,List.reduceReplicate,Int.reduceToNat,Int.reduceLE,Int.reduceLT]
 have rd:=b10.rdS (m:=h.length) (Fr.set (S:=IsI (h.length+1)) (h:=h3) ⟨0,137,[strC nm,N]⟩ rfl) (fun k e _=>by have e:k=h.length+1:=e;omega) (by omega)
 rw[intsA_eq]at rd
 have f12:Fr (IsI i) h h3:=(f1.pre.trans (f2.drop (by omega) (by omega)) fun k e=>.inl e).trans f3 fun k e=>.inl e
 exact⟨f12.trans (Fr.set (S:=IsI (h.length+1)) _ rfl) fun k e=>.inr (by have e:k=h.length+1:=e;omega),_,rfl,(List.getElem?_set_ne (by omega)).trans r3,Rd.agg (RdL.cons (Rd.str nm) (RdL.cons rd RdL.nil))⟩
def L1(n0:Nat)(t:TypeId)(sz:Nat)(h:List ABlk)(N:AV)(n:Nat)(xs:List AV):Prop:=
 (N=.v (.slice none 0 0)∧n=0∧xs=[])∨∃ j ver,N=.own j ver n∧0<n∧n0≤j∧h[j]?=some ⟨ver,t,xs⟩∧xs.length=n * sz
theorem L1.lt{n0:Nat}{t:TypeId}{sz:Nat}{h:List ABlk}{N:AV}{n:Nat}{xs:List AV}(a:L1 n0 t sz h N n xs){k:Nat}(hk:nbk N k):n0≤k∧k<h.length:=by
 rcases a with⟨rfl,_⟩|⟨j,ver,rfl,hn,hj0,hj,hl⟩
 ·exact hk.elim
 ·have hk':k=j:=hk
  subst hk'
  exact⟨hj0,(List.getElem?_eq_some_iff.1 hj).1⟩
theorem L1.fr{n0:Nat}{t:TypeId}{sz:Nat}{h h':List ABlk}{N:AV}{n:Nat}{xs:List AV}{S:Nat→Prop}(a:L1 n0 t sz h N n xs)(f:Fr S h h')(hS:∀ k,nbk N k→¬S k):L1 n0 t sz h' N n xs:=by
 rcases a with a|⟨j,ver,rfl,hn,hj0,hj,hl⟩
 ·exact .inl a
 ·exact .inr ⟨j,ver,rfl,hn,hj0,f.at hj (hS j rfl),hl⟩
theorem L1.one{n0:Nat}{t:TypeId}{sz:Nat}{h:List ABlk}{N:AV}{n:Nat}{xs:List AV}(a:L1 n0 t sz h N n xs):oneA N=true∧flat N=some [N]:=by rcases a with⟨rfl,_⟩|⟨j,ver,rfl,_⟩<;>exact⟨rfl,rfl⟩
def S3(n0:Nat)(N1 N2:AV)(k:Nat):Prop:=k<n0∨nbk N1 k∨nbk N2 k
def GP(n0:Nat)(t1:TypeId)(s1:Nat)(t2:TypeId)(s2:Nat)(h:List ABlk)(N1:AV)(n1:Nat)(ys1:List AV)(N2:AV)(n2:Nat)(ys2:List AV):Prop:=
 ∃ xs1 xs2,L1 n0 t1 s1 h N1 n1 xs1∧L1 n0 t2 s2 h N2 n2 xs2∧(∀ k,nbk N1 k→¬nbk N2 k)∧RdL (S3 n0 N1 N2) h ys1 xs1∧RdL (S3 n0 N1 N2) h ys2 xs2
variable {n0:Nat} {t1:TypeId} {s1:Nat} {t2:TypeId} {s2:Nat} {h h':List ABlk} {N1 N2:AV} {n1 n2:Nat} {ys1 ys2:List AV}
theorem GP.nil:GP n0 t1 s1 t2 s2 h (.v (.slice none 0 0)) 0 [] (.v (.slice none 0 0)) 0 []:=⟨[],[],.inl ⟨rfl,rfl,rfl⟩,.inl ⟨rfl,rfl,rfl⟩,fun k e=>e.elim,RdL.nil,RdL.nil⟩
theorem GP.swap(a:GP n0 t1 s1 t2 s2 h N1 n1 ys1 N2 n2 ys2):GP n0 t2 s2 t1 s1 h N2 n2 ys2 N1 n1 ys1:=by
 obtain⟨x1,x2,a1,a2,a3,a4,a5⟩:=a
 have e:S3 n0 N1 N2=S3 n0 N2 N1:=by funext k;exact propext ⟨fun e=>e.elim .inl fun e=>.inr e.symm,fun e=>e.elim .inl fun e=>.inr e.symm⟩
 rw[e]at a4 a5
 exact⟨x2,x1,a2,a1,fun k e e2=>a3 k e2 e,a5,a4⟩
theorem GP.lt1(a:GP n0 t1 s1 t2 s2 h N1 n1 ys1 N2 n2 ys2){k:Nat}(hk:nbk N1 k):n0≤k∧k<h.length:=by
 obtain⟨x1,x2,a1,_⟩:=a
 exact a1.lt hk
theorem GP.lt2(a:GP n0 t1 s1 t2 s2 h N1 n1 ys1 N2 n2 ys2){k:Nat}(hk:nbk N2 k):n0≤k∧k<h.length:=a.swap.lt1 hk
theorem GP.fr{S:Nat→Prop}(a:GP n0 t1 s1 t2 s2 h N1 n1 ys1 N2 n2 ys2)(f:Fr S h h')(hS:∀ k,S k→k<h.length→k<n0):GP n0 t1 s1 t2 s2 h' N1 n1 ys1 N2 n2 ys2:=by
 obtain⟨x1,x2,a1,a2,a3,a4,a5⟩:=a
 have g:∀ k,S k→k<h.length→S3 n0 N1 N2 k:=fun k e hk=>.inl (hS k e hk)
 exact⟨x1,x2,a1.fr f (fun k e e2=>by have:=a1.lt e;have:=hS k e2 this.2;omega),a2.fr f (fun k e e2=>by have:=a2.lt e;have:=hS k e2 this.2;omega),a3,a4.up f g (fun k e _=>e),a5.up f g (fun k e _=>e)⟩
theorem GP.one1(a:GP n0 t1 s1 t2 s2 h N1 n1 ys1 N2 n2 ys2):oneA N1=true∧flat N1=some [N1]:=by
 obtain⟨x1,x2,a1,_⟩:=a
 exact a1.one
theorem GP.one2(a:GP n0 t1 s1 t2 s2 h N1 n1 ys1 N2 n2 ys2):oneA N2=true∧flat N2=some [N2]:=a.swap.one1
theorem GP.at1(a:GP n0 t1 s1 t2 s2 h N1 n1 ys1 N2 n2 ys2):(N1=.v (.slice none 0 0)∧n1=0∧ys1=[])∨∃ j ver xs,N1=.own j ver n1∧0<n1∧n0≤j∧h[j]?=some ⟨ver,t1,xs⟩∧xs.length=n1 * s1∧¬nbk N2 j:=by
 obtain⟨x1,x2,a1,a2,a3,a4,a5⟩:=a
 rcases a1 with⟨rfl,rfl,rfl⟩|⟨j,ver,rfl,hn,hj0,hj,hl⟩
 ·refine .inl ⟨rfl,rfl,?_⟩
  have:=a4 h (Fr.refl _ _)
  cases ys1 with
  |nil=>rfl
  |cons y ys=>simp only[fzL]at this;obtain⟨_,_,e,_⟩:=this;cases e
 ·exact .inr ⟨j,ver,x1,rfl,hn,hj0,hj,hl,a3 j rfl⟩
theorem GP.push1{es ecs:List AV}{j' ver':Nat}{xs:List AV}(a:GP n0 t1 s1 t2 s2 h N1 n1 ys1 N2 n2 ys2)
  (hx:∀ j ver,N1=.own j ver n1→j'=j∧h[j]?=some ⟨ver,t1,xs⟩) (hx0:N1=.v (.slice none 0 0)→h.length≤j'∧xs=[]) (hn0:n0≤h.length)
  (f:Fr (fun k=>k<n0∨nbk N1 k) h h') (hj:h'[j']?=some ⟨ver',t1,xs++es⟩) (hl:es.length=s1) (he:RdL (S3 n0 N1 N2) h ecs es) :
  GP n0 t1 s1 t2 s2 h' (.own j' ver' (n1+1)) (n1+1) (ys1++ecs) N2 n2 ys2:=by
 obtain⟨x1,x2,a1,a2,a3,a4,a5⟩:=a
 have g:∀ k,(k<n0∨nbk N1 k)→k<h.length→S3 n0 N1 N2 k:=fun k e _=>e.elim .inl fun e=>.inr (.inl e)
 have a2':=a2.fr f (fun k e e2=>by
  have:=a2.lt e
  rcases e2 with e2|e2
  ·omega
  ·exact a3 k e2 e)
 rcases a1 with⟨rfl,rfl,rfl⟩|⟨j,ver,rfl,hn,hj0,hj1,hl1⟩
 ·obtain⟨h1,rfl⟩:=hx0 rfl
  have g2:∀ k,S3 n0 (.own j' ver' (0+1)) N2 k→k<h.length→S3 n0 (.v (.slice none 0 0)) N2 k:=fun k e hk=>by
   rcases e with e|e|e
   ·exact .inl e
   ·have e:k=j':=e;omega
   ·exact .inr (.inr e)
  refine⟨[]++es,x2,.inr ⟨j',ver',rfl,Nat.succ_pos _,by omega,hj,by simp[hl]⟩,a2',fun k e e2=>?_,(a4.up f g g2).append (he.up f g g2),a5.up f g g2⟩
  have e:k=j':=e
  have:=a2.lt e2
  omega
 ·obtain⟨rfl,h2⟩:=hx j ver rfl
  rw[hj1]at h2
  cases h2
  have g2:∀ k,S3 n0 (.own j' ver' (n1+1)) N2 k→k<h.length→S3 n0 (.own j' ver n1) N2 k:=fun k e hk=>e
  exact⟨_,x2,.inr ⟨j',ver',rfl,Nat.succ_pos _,hj0,hj,by rw[List.length_append,hl1,hl,Nat.succ_mul]⟩,a2',fun k e e2=>a3 k e e2,(a4.up f g g2).append (he.up f g g2),a5.up f g g2⟩
theorem GP.rd1(a:GP n0 t1 s1 t2 s2 h N1 n1 ys1 N2 n2 ys2):Rd (Old n0) h (slA n1 ys1) N1:=by
 obtain⟨x1,x2,a1,a2,a3,a4,a5⟩:=a
 rcases a1 with⟨rfl,rfl,rfl⟩|⟨j,ver,rfl,hn,hj0,hj,hl⟩
 ·exact Rd.val _
 ·intro h' f
  obtain⟨n,rfl⟩:∃ m,n1=m+1:=⟨n1-1,by omega⟩
  have hj':=f.at hj (fun e=>by have:j<n0:=e;omega)
  simp only[slA,Go.Ev.fz]
  exact .inr ⟨trivial,j,_,x1,rfl,hj',Nat.le_refl _,.inl trivial,List.prefix_rfl,a4 h' (f.mono fun k e=>.inl e)⟩
theorem GP.rd2(a:GP n0 t1 s1 t2 s2 h N1 n1 ys1 N2 n2 ys2):Rd (Old n0) h (slA n2 ys2) N2:=a.swap.rd1
theorem c82:bodyT Tryz.prog 82:=⟨_,Tryz.func82,by kernel_rfl,by kernel_rfl⟩
theorem rd_tag{m:Nat}{h:List ABlk}{x:Tg}{a:AV}(r:RdA Tg.av m x a h):∃ V,a=.agg [strC x.name,V]∧Rd (Old m) h (intsA x.types) V:=by
 obtain⟨xs,rfl,k⟩:=rd_agg r
 obtain⟨x0,xs,rfl,k0,k⟩:=rdL_cons k
 obtain⟨x1,xs,rfl,k1,k⟩:=rdL_cons k
 obtain rfl:=rdL_nil k
 obtain rfl:=rd_val k0
 exact⟨x1,rfl,k1⟩
def dpS(γ:List (Nat×AV))(i b:Nat)(y:Nat×List ABlk):St:=⟨⟨47,[(0,.ptr i 0 0),(2,.ptr b 0 0)],γ⟩,y.2⟩
def dkS(γ:List (Nat×AV))(i b kb:Nat)(y:Nat×List ABlk):St:=⟨⟨47,[(0,.ptr i 0 0),(2,.ptr b 0 0),(3,.ptr kb 0 0)],γ⟩,y.2⟩
theorem S3_swap{n0:Nat}{N1 N2:AV}{h:List ABlk}{ys xs:List AV}(a:RdL (S3 n0 N1 N2) h ys xs):RdL (S3 n0 N2 N1) h ys xs:=fun h' f=>a h' (f.mono fun k e=>e.elim .inl fun e=>.inr e.symm)
set_option maxHeartbeats 16000000 in
theorem dprog_ev(E:EnvD γ L ts){h:List ABlk}{i p n:Nat}(hp:p≤ts.length)(hr:RD h i L p n):
  EvM Tryz.prog γ 82 [.ptr i 0 0] h (ResD ts n L i h (RdA (fun g:Pg=>.agg g.cells) h.length) (progD ts (ts.length+1) ⟨[],[]⟩ p)):=by
 have hil:=hr.lt
 have hn:=E.n
 have ll:=E.len
 have hbi:h.length≠i:=by omega
 generalize hR:progD ts (ts.length+1) ⟨[],[]⟩ p=R
 refine EvM.ofG Tryz.func82 rfl ?_
 simp only[Tryz.f82,tyD,evG,tyX,Bool.not_true,Bool.not_false,Nat.reduceAdd,Nat.reduceSub,Nat.reduceMul,Nat.reduceLT,Nat.reduceLeDiff,Nat.reduceEqDiff,reduceCtorEq,List.reduceReplicate,Int.reduceToNat,Int.reduceLE,Int.reduceLT]
 refine LoopE.intro (dpS γ i h.length) (fun y=>∃ g N1 N2 f,y.1≤ts.length∧g.tags.length+g.kinds.length≤y.1∧RD y.2 i L y.1 n∧y.2[h.length]?=some ⟨0,71,[N1,N2]⟩∧GP (h.length+1) 137 2 90 2 y.2 N1 g.tags.length (g.tags.flatMap Tg.cells) N2 g.kinds.length (g.kinds.flatMap Kd.cells)∧Fr (IO i h.length) h y.2∧progD ts f g y.1=R∧ts.length<f+y.1) (fun y=>ts.length+1-y.1) (p,h++[⟨0,71,[.v (.slice none 0 0),.v (.slice none 0 0)]⟩]) ⟨rfl,rfl,⟨rfl,rfl,trivial⟩,rfl⟩
  ⟨⟨[],[]⟩,.v (.slice none 0 0),.v (.slice none 0 0),ts.length+1,hp,Nat.zero_le _,hr.app _,at_len _ _ _,GP.nil,Fr.app _ _,hR,by show ts.length<ts.length+1+p;omega⟩ (fun y hy=>?_)
 clear hR hr hp
 obtain⟨p,h4⟩:=y
 obtain⟨g,N1,N2,f,hp,hx4,r4,kb4,G4,F4,hR,hf⟩:=hy
 simp only at hp hx4 r4 kb4 G4 F4 hR hf
 obtain⟨f',rfl⟩:∃ g,f=g+1:=⟨f-1,by omega⟩
 rw[progD]at hR
 have hF4:=F4.1
 have hi4:h4[i]?=_:=r4
 have hbl4:=(List.getElem?_eq_some_iff.1 kb4).1
 by_cases hlt:p<ts.length
 rotate_left
 ·have d1:decide (p<ts.length)=false:=decide_eq_false hlt
  rw[if_neg hlt]at hR
  rw[←hR]
  obtain⟨oN1,fN1⟩:=G4.one1
  obtain⟨oN2,fN2⟩:=G4.one2
  have s5:∀ c,(h4.set h.length c)[h.length]?=some c:=fun c=>List.getElem?_set_self hbl4
  simp only[dpS,tyD,evG,tyX,Bool.not_true,Bool.not_false,Nat.reduceAdd,Nat.reduceSub,Nat.reduceMul,Nat.reduceLT,Nat.reduceLeDiff,Nat.reduceEqDiff,reduceCtorEq,List.reduceReplicate,Int.reduceToNat,Int.reduceLE,Int.reduceLT]
  refine DrawE.pure (DrawK.intro (by kernel_rfl) (by kernel_rfl) ?_)
  simp only[tyD,hi4,ll,d1,kb4,s5,oN1,fN1,oN2,fN2,setMany,List.cons_append,List.nil_append,evG,tyX,Bool.not_true,Bool.not_false,Nat.reduceAdd,Nat.reduceSub,Nat.reduceMul,Nat.reduceLT,Nat.reduceLeDiff,Nat.reduceEqDiff,reduceCtorEq,List.reduceReplicate,Int.reduceToNat,Int.reduceLE,Int.reduceLT]
  have fz:Fr (IsI h.length) h4 (h4.set h.length ⟨0,71,[N1,N2]⟩):=Fr.set _ rfl
  have rd1:=G4.rd1.up (S':=Old h.length) fz (fun k e _=>by have e:k=h.length:=e;show k<h.length+1;omega) (fun k e _=>by have e:k<h.length:=e;show k<h.length+1;omega)
  have rd2:=G4.rd2.up (S':=Old h.length) fz (fun k e _=>by have e:k=h.length:=e;show k<h.length+1;omega) (fun k e _=>by have e:k<h.length:=e;show k<h.length+1;omega)
  exact⟨IO.fin (F4.trans (Fr.set (S:=IO i h.length) _ (.inr (Nat.le_refl _))) fun k e=>.inl e),_,rfl,r4.fr fz (fun e=>hbi (by have e:i=h.length:=e;exact e.symm)),Rd.agg (RdL.cons rd1 (RdL.cons rd2 RdL.nil))⟩
 have d1:decide (p<ts.length)=true:=decide_eq_true hlt
 rw[if_pos hlt]at hR
 simp only[dpS,tyD,evG,tyX,Bool.not_true,Bool.not_false,Nat.reduceAdd,Nat.reduceSub,Nat.reduceMul,Nat.reduceLT,Nat.reduceLeDiff,Nat.reduceEqDiff,reduceCtorEq,List.reduceReplicate,Int.reduceToNat,Int.reduceLE,Int.reduceLT]
 refine DrawE.pure (DrawK.intro (by kernel_rfl) (by kernel_rfl) ?_)
 simp only[tyD,hi4,ll,d1,evG,tyX,Bool.not_true,Bool.not_false,Nat.reduceAdd,Nat.reduceSub,Nat.reduceMul,Nat.reduceLT,Nat.reduceLeDiff,Nat.reduceEqDiff,reduceCtorEq,List.reduceReplicate,Int.reduceToNat,Int.reduceLE,Int.reduceLT]
 refine takeE (w:=kTag) E hp r4 ?_ ?_ (fun hB h5 f5 r5 hp5=>?_) (fun hB h5 f5 r5=>?_)
 ·rfl
 ·rfl
 ·rw[if_pos hB]at hR
  have kb5:=f5.at kb4 hbi
  have hbl5:=(List.getElem?_eq_some_iff.1 kb5).1
  have F5:=F4.trans (IO.i (n0:=h.length) f5) fun k e=>.inl e
  have G5:=G4.fr f5 (fun k e _=>by have e:k=i:=e;omega)
  have hF5:=F5.1
  generalize hp5e:p+1=p5 at r5 hp5 hR⊢
  simp only[tyD,kb5,List.cons_append,List.nil_append,evG,tyX,Bool.not_true,Bool.not_false,Nat.reduceAdd,Nat.reduceSub,Nat.reduceMul,Nat.reduceLT,Nat.reduceLeDiff,Nat.reduceEqDiff,reduceCtorEq,List.reduceReplicate,Int.reduceToNat,Int.reduceLE,Int.reduceLT]
  refine DrawE.via (fun s'=>∃ y:Nat×List ABlk,slotW s' (dpS γ i h.length y)∧p<y.1∧∃ g N1 N2 f,y.1≤ts.length∧g.tags.length+g.kinds.length≤y.1∧RD y.2 i L y.1 n∧y.2[h.length]?=some ⟨0,71,[N1,N2]⟩∧GP (h.length+1) 137 2 90 2 y.2 N1 g.tags.length (g.tags.flatMap Tg.cells) N2 g.kinds.length (g.kinds.flatMap Kd.cells)∧Fr (IO i h.length) h y.2∧progD ts f g y.1=R∧ts.length<f+y.1) (fun K hK=>?_) (fun s' hs'=>?_)
  rotate_left
  ·obtain⟨y,hw,hlt,hinv⟩:=hs'
   simp only[tyD,evG,tyX,Bool.not_true,Bool.not_false,Nat.reduceAdd,Nat.reduceSub,Nat.reduceMul,Nat.reduceLT,Nat.reduceLeDiff,Nat.reduceEqDiff,reduceCtorEq,List.reduceReplicate,Int.reduceToNat,Int.reduceLE,Int.reduceLT]
   exact loopCE.intro y hinv hw (by obtain⟨_,_,_,_,h1,_⟩:=hinv;show ts.length+1-y.1<ts.length+1-p;omega)
  refine DrawE.orders [[0,1,2,3,4,5,6,7],[0,2,1,3,4,5,6,7],[2,0,1,3,4,5,6,7],[0,2,3,1,4,5,6,7],[2,0,3,1,4,5,6,7],[0,2,3,4,1,5,6,7],[2,0,3,4,1,5,6,7],[2,3,0,1,4,5,6,7],[2,3,0,4,1,5,6,7],[2,3,4,0,1,5,6,7]] (fun _ _ _ h o h'=>ResD ts n L i h (RdA Tg.av h.length) (tagD ts p5) o h') (panE_ext _) (by kernel_rfl) (by kernel_rfl) (by kernel_rfl) (fun q hq=>?_)
  simp only[List.mem_cons,List.not_mem_nil,or_false]at hq
  rcases hq with rfl|rfl|rfl|rfl|rfl|rfl|rfl|rfl|rfl|rfl
  all_goals simp only[evR,rR_bs,seqT,List.getElem?_toArray,List.getElem?_cons_succ,List.getElem?_cons_zero,tyD,kb5,List.cons_append,List.nil_append,evG,tyX,Bool.not_true,Bool.not_false,Nat.reduceAdd,Nat.reduceSub,Nat.reduceMul,Nat.reduceLT,Nat.reduceLeDiff,Nat.reduceEqDiff,reduceCtorEq,List.reduceReplicate,Int.reduceToNat,Int.reduceLE,Int.reduceLT]
  all_goals refine⟨c137,dtag_ev E hp5 r5,fun ra hp hh=>?_,fun v hp hh=>by obtain⟨q,e,eR,f,rfl⟩:=ResD.pan hh;rw[eR]at hR;rw[←hR];exact⟨IO.fin (F5.trans (IO.i f) fun k e=>.inl e),rfl⟩⟩
  all_goals obtain⟨x,q,eR,f,rp,hA⟩:=ResD.ret hh
  all_goals obtain⟨V,rfl,rV⟩:=rd_tag hA
  all_goals have f:Fr (IsI i) h5 hp:=f
  all_goals have adv5:=tag_adv hp5
  all_goals rw[eR]at hR adv5
  all_goals have hR2:progD ts f' ⟨g.tags++[x],g.kinds⟩ q=R:=hR
  all_goals obtain⟨oV,fV⟩:=rd_one rV
  all_goals have kbp:hp[h.length]?=some ⟨0,71,[N1,N2]⟩:=f.at kb5 hbi
  all_goals have hbl:=(List.getElem?_eq_some_iff.1 kbp).1
  all_goals have hff:=f.1
  all_goals have Gp:=G5.fr f (fun k e _=>by have e:k=i:=e;omega)
  all_goals have hl5:∀ k,S3 (h.length+1) N1 N2 k→k<h5.length:=fun k hk=>hk.elim (fun hk=>by omega) fun hk=>hk.elim (fun hk=>(G5.lt1 hk).2) fun hk=>(G5.lt2 hk).2
  all_goals have g7:∀ l,(hp++l)[h.length]?=some ⟨0,71,[N1,N2]⟩:=fun l=>(List.getElem?_append_left hbl).trans kbp
  all_goals have s6:∀ l c,(hp++l).set h.length c=hp.set h.length c++l:=fun l c=>List.set_append_left _ _ hbl
  all_goals have hel:RdL (S3 (h.length+1) N1 N2) hp x.cells [strC x.name,V]:=RdL.cons (Rd.str _) (RdL.cons (rV.up (Fr.refl NoB hp) (fun k e=>e.elim) fun k e _=>hl5 k e) RdL.nil)
  all_goals have hxe:(g.tags++[x]).length=g.tags.length+1:=by simp
  all_goals have hxf:(g.tags++[x]).flatMap Tg.cells=g.tags.flatMap Tg.cells++x.cells:=by simp
  all_goals have Fpp:=F5.trans (IO.i (n0:=h.length) f) fun k e=>.inl e
  all_goals rcases Gp.at1 with⟨rfl,e0,e1⟩|⟨j,ver,cs,rfl,hnn,hj0,hj,hl,hnb⟩
  all_goals first
   |(have e0':=e0
     simp only[evR,rR_bs,seqT,List.getElem?_toArray,List.getElem?_cons_succ,List.getElem?_cons_zero,tyD,kbp,g7,oV,fV,strC,at_len,at_len1,s6,setMany,List.set_cons_zero,List.set_cons_succ,List.nil_append,List.append_assoc,List.cons_append,evG,tyX,Bool.not_true,Bool.not_false,Nat.reduceAdd,Nat.reduceSub,Nat.reduceMul,Nat.reduceLT,Nat.reduceLeDiff,Nat.reduceEqDiff,reduceCtorEq,List.reduceReplicate,Int.reduceToNat,Int.reduceLE,Int.reduceLT]
     have GQ:=Gp.push1 (h':=hp.set h.length ⟨0,71,[.own (hp.length+1) 0 1,N2]⟩++[⟨0,137,[strC x.name,V]⟩,⟨0,137,[strC x.name,V]⟩]) (j':=hp.length+1) (ver':=0) (xs:=[]) (es:=[strC x.name,V]) (ecs:=x.cells) (fun j ver e=>by cases e) (fun _=>⟨by omega,rfl⟩) (by omega) ((Fr.set _ (.inl (Nat.lt_succ_self _))).trans (Fr.app (S:=NoB) _ _) fun k e=>e.elim) (at_lenS1 _ _ _ _ _ _) rfl hel
     rw[e0]at GQ
     refine hK _ ⟨(q,_),⟨rfl,rfl,⟨rfl,rfl,trivial⟩,rfl⟩,by have:=adv5.1;show p<q;omega,⟨g.tags++[x],g.kinds⟩,.own (hp.length+1) 0 1,N2,f',adv5.2,by show (g.tags++[x]).length+g.kinds.length≤q;rw[hxe];have:=adv5.1;omega,?_,?_,by show GP _ _ _ _ _ _ _ (g.tags++[x]).length ((g.tags++[x]).flatMap Tg.cells) _ _ _;rw[hxe,hxf,e0];exact GQ,?_,hR2,by have:=adv5.1;show ts.length<f'+q;omega⟩
     ·exact (List.getElem?_append_left (by rw[List.length_set];exact rp.lt)).trans ((List.getElem?_set_ne hbi).trans rp)
     ·exact (List.getElem?_append_left (by rw[List.length_set];exact hbl)).trans (List.getElem?_set_self hbl)
     ·exact Fpp.trans ((Fr.set (S:=IO i h.length) _ (.inr (Nat.le_refl _))).trans (Fr.app (S:=NoB) _ _) fun k e=>e.elim) fun k e=>.inl e)
   |(have hjl:=(List.getElem?_eq_some_iff.1 hj).1
     have hjb:j≠h.length:=by omega
     have hji:j≠i:=by omega
     have q1:∀ l,(hp++l)[j]?=some ⟨ver,137,cs⟩:=fun l=>(List.getElem?_append_left hjl).trans hj
     have s8:∀ l c,(hp++l).set j c=hp.set j c++l:=fun l c=>List.set_append_left _ _ hjl
     have g9:∀ l c,(hp.set j c++l)[h.length]?=some ⟨0,71,[.own j ver g.tags.length,N2]⟩:=fun l c=>(List.getElem?_append_left (by rw[List.length_set];exact hbl)).trans ((List.getElem?_set_ne hjb).trans kbp)
     have s9:∀ l c d,(hp.set j c++l).set h.length d=(hp.set j c).set h.length d++l:=fun l c d=>List.set_append_left _ _ (by rw[List.length_set];exact hbl)
     have hl':cs.length=g.tags.length * 2:=hl
     have q4:List.take (g.tags.length * 2) cs=cs:=List.take_of_length_le (by omega)
     have q6:g.tags.length * 2≤cs.length:=by omega
     simp only[evR,rR_bs,seqT,List.getElem?_toArray,List.getElem?_cons_succ,List.getElem?_cons_zero,tyD,kbp,g7,oV,fV,strC,at_len,at_len1,s6,q1,s8,g9,s9,q4,q6,setMany,List.set_cons_zero,List.set_cons_succ,List.nil_append,List.append_assoc,List.cons_append,evG,tyX,Bool.not_true,Bool.not_false,Nat.reduceAdd,Nat.reduceSub,Nat.reduceMul,Nat.reduceLT,Nat.reduceLeDiff,Nat.reduceEqDiff,reduceCtorEq,List.reduceReplicate,Int.reduceToNat,Int.reduceLE,Int.reduceLT]
     have GQ:=Gp.push1 (h':=(hp.set j ⟨ver+1,137,cs++[strC x.name,V]⟩).set h.length ⟨0,71,[.own j (ver+1) (g.tags.length+1),N2]⟩++[⟨0,137,[strC x.name,V]⟩]) (j':=j) (ver':=ver+1) (xs:=cs) (es:=[strC x.name,V]) (ecs:=x.cells) (fun j2 ver2 e=>by cases e;exact⟨rfl,hj⟩) (fun e=>by cases e) (by omega) (((Fr.set (S:=fun k=>k<h.length+1∨nbk (.own j ver g.tags.length) k) _ (.inr rfl)).trans (Fr.set (S:=fun k=>k<h.length+1∨nbk (.own j ver g.tags.length) k) _ (.inl (Nat.lt_succ_self _))) fun k e=>.inl e).trans (Fr.app (S:=NoB) _ _) fun k e=>e.elim) ((List.getElem?_append_left (by rw[List.length_set,List.length_set];exact hjl)).trans ((List.getElem?_set_ne hjb.symm).trans (List.getElem?_set_self hjl))) rfl hel
     refine⟨by omega,hK _ ⟨(q,_),⟨rfl,rfl,⟨rfl,rfl,trivial⟩,rfl⟩,by have:=adv5.1;show p<q;omega,⟨g.tags++[x],g.kinds⟩,.own j (ver+1) (g.tags.length+1),N2,f',adv5.2,by show (g.tags++[x]).length+g.kinds.length≤q;rw[hxe];have:=adv5.1;omega,?_,?_,by show GP _ _ _ _ _ _ _ (g.tags++[x]).length ((g.tags++[x]).flatMap Tg.cells) _ _ _;rw[hxe,hxf];exact GQ,?_,hR2,by have:=adv5.1;show ts.length<f'+q;omega⟩⟩
     ·exact (List.getElem?_append_left (by rw[List.length_set,List.length_set];exact rp.lt)).trans ((List.getElem?_set_ne hbi).trans ((List.getElem?_set_ne hji).trans rp))
     ·exact (List.getElem?_append_left (by rw[List.length_set,List.length_set];exact hbl)).trans (List.getElem?_set_self (by rw[List.length_set];exact hbl))
     ·exact Fpp.trans (((Fr.set (S:=IO i h.length) _ (.inr (by omega))).trans (Fr.set (S:=IO i h.length) _ (.inr (Nat.le_refl _))) fun k e=>.inl e).trans (Fr.app (S:=NoB) _ _) fun k e=>e.elim) fun k e=>.inl e)
 ·rw[if_neg (by rw[hB];decide)]at hR
  have kb5:=f5.at kb4 hbi
  have F5:=F4.trans (IO.i (n0:=h.length) f5) fun k e=>.inl e
  have G5:=G4.fr f5 (fun k e _=>by have e:k=i:=e;omega)
  simp only[tyD,evG,tyX,Bool.not_true,Bool.not_false,Nat.reduceAdd,Nat.reduceSub,Nat.reduceMul,Nat.reduceLT,Nat.reduceLeDiff,Nat.reduceEqDiff,reduceCtorEq,List.reduceReplicate,Int.reduceToNat,Int.reduceLE,Int.reduceLT]
  refine wantE (w:=kKind) E hp r5 ?_ ?_ (fun e6 h6 f6 r6 hp6=>?_) (fun e6 h6 f6=>?_)
  ·rfl
  ·rfl
  rotate_left
  ·have eK:kindD2 ts p=.bad p 80:=by unfold kindD2 wantD;rw[if_neg (by rw[e6];decide)];rfl
   rw[eK]at hR
   rw[←hR]
   exact⟨IO.fin (F5.trans (IO.i f6) fun k e=>.inl e),rfl⟩
  have F6:=F5.trans (IO.i (n0:=h.length) f6) fun k e=>.inl e
  have kb6:=f6.at kb5 hbi
  have G6:=G5.fr f6 (fun k e _=>by have e:k=i:=e;omega)
  simp only[tyD,evG,tyX,Bool.not_true,Bool.not_false,Nat.reduceAdd,Nat.reduceSub,Nat.reduceMul,Nat.reduceLT,Nat.reduceLeDiff,Nat.reduceEqDiff,reduceCtorEq,List.reduceReplicate,Int.reduceToNat,Int.reduceLE,Int.reduceLT]
  refine wordE E hp6 r6 ?_ ?_ (fun nm p7 h7 e7 f7 r7 a7 b7=>?_) (fun q e' h7 e7 f7=>?_)
  ·rfl
  ·rfl
  rotate_left
  ·have eK:kindD2 ts p=.bad q e':=by unfold kindD2 wantD;rw[if_pos e6];show (wordD ts (p+1)).bind _=_;rw[e7];rfl
   rw[eK]at hR
   rw[←hR]
   exact⟨IO.fin (F6.trans (IO.i f7) fun k e=>.inl e),rfl⟩
  have F7:=F6.trans (IO.i (n0:=h.length) f7) fun k e=>.inl e
  have kb7:=f7.at kb6 hbi
  have G7:=G6.fr f7 (fun k e _=>by have e:k=i:=e;omega)
  have eK:kindD2 ts p=(wantD ts [123] p7).bind fun _ p3=>(chordsD ts (ts.length+1) [] p3).bind fun l p4=>.ok ⟨nm,l⟩ p4:=by unfold kindD2 wantD;rw[if_pos e6];show (wordD ts (p+1)).bind _=_;rw[e7];rfl
  have hF7:=F7.1
  have hil7:=r7.lt
  have hbl7:=(List.getElem?_eq_some_iff.1 kb7).1
  simp only[tyD,at_len,set_len,List.append_assoc,List.cons_append,List.nil_append,evG,tyX,Bool.not_true,Bool.not_false,Nat.reduceAdd,Nat.reduceSub,Nat.reduceMul,Nat.reduceLT,Nat.reduceLeDiff,Nat.reduceEqDiff,reduceCtorEq,List.reduceReplicate,Int.reduceToNat,Int.reduceLE,Int.reduceLT]
  refine wantE (w:=[123]) E b7 (r7.app [⟨0,90,[.v (.string ⟨nm.toArray⟩),.v (.slice none 0 0)]⟩]) ?_ ?_ (fun e8 h8 f8 r8 hp8=>?_) (fun e8 h8 f8=>?_)
  ·rfl
  ·rfl
  rotate_left
  ·have eW:wantD ts [123] p7=.bad p7 80:=by unfold wantD;rw[if_neg (by rw[e8];decide)]
   rw[eK,eW]at hR
   rw[←hR]
   exact⟨IO.fin (F7.trans (IO.i f8.pre) fun k e=>.inl e),rfl⟩
  have eW:wantD ts [123] p7=.ok () (p7+1):=by unfold wantD;rw[if_pos e8]
  obtain⟨kb,hkb0⟩:∃ kb,kb=h7.length:=⟨_,rfl⟩
  have kk8:h8[kb]?=some ⟨0,90,[strC nm,.v (.slice none 0 0)]⟩:=by rw[hkb0];exact f8.at (at_len _ _ _) (fun e=>by have e:h7.length=i:=e;omega)
  have hki:kb≠i:=by omega
  have hkb:∀ k,IO i kb k→IO i h.length k∨h.length≤k:=fun k e=>.inl (e.elim .inl fun e=>.inr (by omega))
  have F8:Fr (IO i kb) h7 h8:=IO.i f8.pre
  have hgb:∀ {h':List ABlk},Fr (IO i kb) h7 h'→h'[h.length]?=some ⟨0,71,[N1,N2]⟩∧GP (h.length+1) 137 2 90 2 h' N1 g.tags.length (g.tags.flatMap Tg.cells) N2 g.kinds.length (g.kinds.flatMap Kd.cells):=fun {h'} f=>⟨f.at kb7 (fun e=>by rcases e with e|e<;>omega),G7.fr f (fun k e hk=>by rcases e with e|e<;>omega)⟩
  have hlk:∀ k,S3 (h.length+1) N1 N2 k→k<kb:=fun k hk=>by
   rcases hk with hk|hk|hk
   ·omega
   ·have:=(G7.lt1 hk).2;omega
   ·have:=(G7.lt2 hk).2;omega
  rw[eK,eW]at hR
  have hR:((chordsD ts (ts.length+1) [] (p7+1)).bind fun l p4=>DR.ok (⟨nm,l⟩:Kd) p4).bind (fun k q=>progD ts f' ⟨g.tags,g.kinds++[k]⟩ q)=R:=hR
  have adv8:=chords_adv (ts:=ts) (ts.length+1) [] (p7+1) hp8
  generalize hC:chordsD ts (ts.length+1) [] (p7+1)=C at hR adv8
  rw[←hkb0]
  simp only[tyD,evG,tyX,Bool.not_true,Bool.not_false,Nat.reduceAdd,Nat.reduceSub,Nat.reduceMul,Nat.reduceLT,Nat.reduceLeDiff,Nat.reduceEqDiff,reduceCtorEq,List.reduceReplicate,Int.reduceToNat,Int.reduceLE,Int.reduceLT]
  refine LoopE.intro (dkS γ i h.length kb) (fun y=>∃ xs N f,y.1≤ts.length∧p7≤y.1∧xs.length≤y.1∧RD y.2 i L y.1 n∧y.2[kb]?=some ⟨0,90,[strC nm,N]⟩∧GL (kb+1) 59 4 y.2 N xs.length (xs.flatMap Ch.cells)∧Fr (IO i kb) h7 y.2∧chordsD ts f xs y.1=C∧ts.length<f+y.1) (fun y=>ts.length+1-y.1) (p7+1,h8) ⟨rfl,rfl,⟨rfl,rfl,rfl,trivial⟩,rfl⟩
   ⟨[],.v (.slice none 0 0),ts.length+1,hp8,Nat.le_succ _,Nat.zero_le _,r8,kk8,GL.nil,F8,hC,by show ts.length<ts.length+1+(p7+1);omega⟩ (fun y hy=>?_)
  obtain⟨p10,hp10⟩:∃ q,q=p:=⟨_,rfl⟩
  clear hC kk8 r8 f8 F8 eW e8 eK kb4 G4 F4 r4 hi4 kb5 F5 G5 f5 r5 f6 r6 F6 kb6 G6 f7 r7
  obtain⟨p,h8'⟩:=y
  obtain⟨xs,N,fc,hp8',hpp,hx8,r8,kk8,G8,F8,hC,hfc⟩:=hy
  simp only at hp8' hpp hx8 r8 kk8 G8 F8 hC hfc
  obtain⟨fc',rfl⟩:∃ g,fc=g+1:=⟨fc-1,by omega⟩
  rw[chordsD]at hC
  have hF8:=F8.1
  simp only[dkS,tyD,evG,tyX,Bool.not_true,Bool.not_false,Nat.reduceAdd,Nat.reduceSub,Nat.reduceMul,Nat.reduceLT,Nat.reduceLeDiff,Nat.reduceEqDiff,reduceCtorEq,List.reduceReplicate,Int.reduceToNat,Int.reduceLE,Int.reduceLT]
  refine takeE (w:=[125]) E hp8' r8 ?_ ?_ (fun hB h9 f9 r9 hp9=>?_) (fun hB h9 f9 r9=>?_)
  ·rfl
  ·rfl
  ·rw[if_pos hB]at hC
   rw[←hC]at hR adv8
   have hR2:progD ts f' ⟨g.tags,g.kinds++[⟨nm,xs⟩]⟩ (p+1)=R:=hR
   have kb9:=f9.at kk8 hki
   have G9:=G8.fr0 f9 (fun k e=>by have e:k=i:=e;omega)
   have F9:=F8.trans (IO.i (n0:=kb) f9) fun k e=>.inl e
   obtain⟨kp9,GP9⟩:=hgb F9
   obtain⟨oN,fN⟩:=G9.one
   have hbl:=(List.getElem?_eq_some_iff.1 kp9).1
   have hF9:=F9.1
   have rdk:Rd (Old (kb+1)) h9 (chordsA xs) N:=G9.rd
   have hel:RdL (S3 (h.length+1) N1 N2) h9 (Kd.cells ⟨nm,xs⟩) [strC nm,N]:=RdL.cons (Rd.str _) (RdL.cons (rdk.up (Fr.refl NoB h9) (fun k e=>e.elim) fun k e _=>by have:=hlk k e;show k<kb+1;omega) RdL.nil)
   have g7:∀ l,(h9++l)[h.length]?=some ⟨0,71,[N1,N2]⟩:=fun l=>(List.getElem?_append_left hbl).trans kp9
   have s6:∀ l c,(h9++l).set h.length c=h9.set h.length c++l:=fun l c=>List.set_append_left _ _ hbl
   have hxe:(g.kinds++[(⟨nm,xs⟩:Kd)]).length=g.kinds.length+1:=by simp
   have hxf:(g.kinds++[(⟨nm,xs⟩:Kd)]).flatMap Kd.cells=g.kinds.flatMap Kd.cells++Kd.cells ⟨nm,xs⟩:=by simp
   have Fpp:Fr (IO i h.length) h h9:=F7.trans F9 hkb
   rcases GP9.swap.at1 with⟨rfl,e0,e1⟩|⟨j,ver,cs,rfl,hnn,hj0,hj,hl,hnb⟩
   ·simp only[tyD,kp9,kb9,g7,oN,fN,strC,at_len,at_len1,s6,setMany,List.set_cons_zero,List.set_cons_succ,List.nil_append,List.append_assoc,List.cons_append,evG,tyX,Bool.not_true,Bool.not_false,Nat.reduceAdd,Nat.reduceSub,Nat.reduceMul,Nat.reduceLT,Nat.reduceLeDiff,Nat.reduceEqDiff,reduceCtorEq,List.reduceReplicate,Int.reduceToNat,Int.reduceLE,Int.reduceLT]
    have GQ:=(GP9.swap.push1 (h':=h9.set h.length ⟨0,71,[N1,.own (h9.length+1) 0 1]⟩++[⟨0,90,[strC nm,N]⟩,⟨0,90,[strC nm,N]⟩]) (j':=h9.length+1) (ver':=0) (xs:=[]) (es:=[strC nm,N]) (ecs:=Kd.cells ⟨nm,xs⟩) (fun j ver e=>by cases e) (fun _=>⟨by omega,rfl⟩) (by omega) ((Fr.set _ (.inl (Nat.lt_succ_self _))).trans (Fr.app (S:=NoB) _ _) fun k e=>e.elim) (at_lenS1 _ _ _ _ _ _) rfl (S3_swap hel)).swap
    rw[e0]at GQ
    refine loopCE.intro (p+1,_) ⟨⟨g.tags,g.kinds++[⟨nm,xs⟩]⟩,N1,.own (h9.length+1) 0 1,f',hp9,by show g.tags.length+(g.kinds++[(⟨nm,xs⟩:Kd)]).length≤p+1;rw[hxe];omega,?_,?_,by show GP _ _ _ _ _ _ _ _ _ _ (g.kinds++[(⟨nm,xs⟩:Kd)]).length ((g.kinds++[(⟨nm,xs⟩:Kd)]).flatMap Kd.cells);rw[hxe,hxf,e0];exact GQ,?_,hR2,by show ts.length<f'+(p+1);omega⟩ ⟨rfl,rfl,⟨rfl,rfl,trivial⟩,rfl⟩ (by show ts.length+1-(p+1)<ts.length+1-_;omega)
    ·exact (List.getElem?_append_left (by rw[List.length_set];exact r9.lt)).trans ((List.getElem?_set_ne hbi).trans r9)
    ·exact (List.getElem?_append_left (by rw[List.length_set];exact hbl)).trans (List.getElem?_set_self hbl)
    ·exact Fpp.trans ((Fr.set (S:=IO i h.length) _ (.inr (Nat.le_refl _))).trans (Fr.app (S:=NoB) _ _) fun k e=>e.elim) fun k e=>.inl e
   ·have hjl:=(List.getElem?_eq_some_iff.1 hj).1
    have hjb:j≠h.length:=by omega
    have hji:j≠i:=by omega
    have q1:∀ l,(h9++l)[j]?=some ⟨ver,90,cs⟩:=fun l=>(List.getElem?_append_left hjl).trans hj
    have s8:∀ l c,(h9++l).set j c=h9.set j c++l:=fun l c=>List.set_append_left _ _ hjl
    have g9:∀ l c,(h9.set j c++l)[h.length]?=some ⟨0,71,[N1,.own j ver g.kinds.length]⟩:=fun l c=>(List.getElem?_append_left (by rw[List.length_set];exact hbl)).trans ((List.getElem?_set_ne hjb).trans kp9)
    have s9:∀ l c d,(h9.set j c++l).set h.length d=(h9.set j c).set h.length d++l:=fun l c d=>List.set_append_left _ _ (by rw[List.length_set];exact hbl)
    have hl':cs.length=g.kinds.length * 2:=hl
    have q4:List.take (g.kinds.length * 2) cs=cs:=List.take_of_length_le (by omega)
    have q6:g.kinds.length * 2≤cs.length:=by omega
    simp only[tyD,kp9,kb9,g7,oN,fN,strC,at_len,at_len1,s6,q1,s8,g9,s9,q4,q6,setMany,List.set_cons_zero,List.set_cons_succ,List.nil_append,List.append_assoc,List.cons_append,evG,tyX,Bool.not_true,Bool.not_false,Nat.reduceAdd,Nat.reduceSub,Nat.reduceMul,Nat.reduceLT,Nat.reduceLeDiff,Nat.reduceEqDiff,reduceCtorEq,List.reduceReplicate,Int.reduceToNat,Int.reduceLE,Int.reduceLT]
    have GQ:=(GP9.swap.push1 (h':=(h9.set j ⟨ver+1,90,cs++[strC nm,N]⟩).set h.length ⟨0,71,[N1,.own j (ver+1) (g.kinds.length+1)]⟩++[⟨0,90,[strC nm,N]⟩]) (j':=j) (ver':=ver+1) (xs:=cs) (es:=[strC nm,N]) (ecs:=Kd.cells ⟨nm,xs⟩) (fun j2 ver2 e=>by cases e;exact⟨rfl,hj⟩) (fun e=>by cases e) (by omega) (((Fr.set (S:=fun k=>k<h.length+1∨nbk (.own j ver g.kinds.length) k) _ (.inr rfl)).trans (Fr.set (S:=fun k=>k<h.length+1∨nbk (.own j ver g.kinds.length) k) _ (.inl (Nat.lt_succ_self _))) fun k e=>.inl e).trans (Fr.app (S:=NoB) _ _) fun k e=>e.elim) ((List.getElem?_append_left (by rw[List.length_set,List.length_set];exact hjl)).trans ((List.getElem?_set_ne hjb.symm).trans (List.getElem?_set_self hjl))) rfl (S3_swap hel)).swap
    refine⟨by omega,loopCE.intro (p+1,_) ⟨⟨g.tags,g.kinds++[⟨nm,xs⟩]⟩,N1,.own j (ver+1) (g.kinds.length+1),f',hp9,by show g.tags.length+(g.kinds++[(⟨nm,xs⟩:Kd)]).length≤p+1;rw[hxe];omega,?_,?_,by show GP _ _ _ _ _ _ _ _ _ _ (g.kinds++[(⟨nm,xs⟩:Kd)]).length ((g.kinds++[(⟨nm,xs⟩:Kd)]).flatMap Kd.cells);rw[hxe,hxf];exact GQ,?_,hR2,by show ts.length<f'+(p+1);omega⟩ ⟨rfl,rfl,⟨rfl,rfl,trivial⟩,rfl⟩ (by show ts.length+1-(p+1)<ts.length+1-_;omega)⟩
    ·exact (List.getElem?_append_left (by rw[List.length_set,List.length_set];exact r9.lt)).trans ((List.getElem?_set_ne hbi).trans ((List.getElem?_set_ne hji).trans r9))
    ·exact (List.getElem?_append_left (by rw[List.length_set,List.length_set];exact hbl)).trans (List.getElem?_set_self (by rw[List.length_set];exact hbl))
    ·exact Fpp.trans (((Fr.set (S:=IO i h.length) _ (.inr (by omega))).trans (Fr.set (S:=IO i h.length) _ (.inr (Nat.le_refl _))) fun k e=>.inl e).trans (Fr.app (S:=NoB) _ _) fun k e=>e.elim) fun k e=>.inl e
  ·rw[if_neg (by rw[hB];decide)]at hC
   have kb9:=f9.at kk8 hki
   have G9:=G8.fr0 f9 (fun k e=>by have e:k=i:=e;omega)
   have F9:=F8.trans (IO.i (n0:=kb) f9) fun k e=>.inl e
   have hp9:=hp8'
   have hF9:=F9.1
   have hkl9:=(List.getElem?_eq_some_iff.1 kb9).1
   simp only[tyD,kb9,List.cons_append,List.nil_append,evG,tyX,Bool.not_true,Bool.not_false,Nat.reduceAdd,Nat.reduceSub,Nat.reduceMul,Nat.reduceLT,Nat.reduceLeDiff,Nat.reduceEqDiff,reduceCtorEq,List.reduceReplicate,Int.reduceToNat,Int.reduceLE,Int.reduceLT]
   refine DrawE.via (fun s'=>∃ y:Nat×List ABlk,slotW s' (dkS γ i h.length kb y)∧p<y.1∧∃ xs N f,y.1≤ts.length∧p7≤y.1∧xs.length≤y.1∧RD y.2 i L y.1 n∧y.2[kb]?=some ⟨0,90,[strC nm,N]⟩∧GL (kb+1) 59 4 y.2 N xs.length (xs.flatMap Ch.cells)∧Fr (IO i kb) h7 y.2∧chordsD ts f xs y.1=C∧ts.length<f+y.1) (fun K hK=>?_) (fun s' hs'=>?_)
   rotate_left
   ·obtain⟨y,hw,hlt,hinv⟩:=hs'
    simp only[tyD,evG,tyX,Bool.not_true,Bool.not_false,Nat.reduceAdd,Nat.reduceSub,Nat.reduceMul,Nat.reduceLT,Nat.reduceLeDiff,Nat.reduceEqDiff,reduceCtorEq,List.reduceReplicate,Int.reduceToNat,Int.reduceLE,Int.reduceLT]
    exact loopCE.intro y hinv hw (by obtain⟨_,_,_,h1,_⟩:=hinv;show ts.length+1-y.1<ts.length+1-p;omega)
   refine DrawE.orders [[0,1,2,3,4,5,6,7],[0,2,1,3,4,5,6,7],[2,0,1,3,4,5,6,7],[0,2,3,1,4,5,6,7],[2,0,3,1,4,5,6,7],[0,2,3,4,1,5,6,7],[2,0,3,4,1,5,6,7],[2,3,0,1,4,5,6,7],[2,3,0,4,1,5,6,7],[2,3,4,0,1,5,6,7]] (fun _ _ _ h o h'=>ResD ts n L i h (RdA (fun c:Ch=>.agg c.cells) h.length) (chordD ts p) o h') (panE_ext _) (by kernel_rfl) (by kernel_rfl) (by kernel_rfl) (fun q hq=>?_)
   simp only[List.mem_cons,List.not_mem_nil,or_false]at hq
   rcases hq with rfl|rfl|rfl|rfl|rfl|rfl|rfl|rfl|rfl|rfl
   all_goals simp only[evR,rR_bs,seqT,List.getElem?_toArray,List.getElem?_cons_succ,List.getElem?_cons_zero,tyD,kb9,List.cons_append,List.nil_append,evG,tyX,Bool.not_true,Bool.not_false,Nat.reduceAdd,Nat.reduceSub,Nat.reduceMul,Nat.reduceLT,Nat.reduceLeDiff,Nat.reduceEqDiff,reduceCtorEq,List.reduceReplicate,Int.reduceToNat,Int.reduceLE,Int.reduceLT]
   all_goals refine⟨c72,dchord_ev E hp9 r9,fun ra hp hh=>?_,fun v hp hh=>by obtain⟨q,e,eR,f,rfl⟩:=ResD.pan hh;rw[eR]at hC;rw[←hC]at hR;rw[←hR];exact⟨IO.fin ((F7.trans F9 hkb).trans (IO.i f) fun k e=>.inl e),rfl⟩⟩
   all_goals obtain⟨x,q,eR,f,rp,hA⟩:=ResD.ret hh
   all_goals obtain⟨_,e0,hcl⟩:=rd_agg hA
   all_goals obtain⟨x1,x2,x3,e1,⟨o1,g1⟩,⟨o2,g2⟩,o3,g3⟩:=rd_chord hA
   all_goals cases e0
   all_goals cases e1
   all_goals have f:Fr (IsI i) h9 hp:=f
   all_goals have adv9:=chord_adv hp9
   all_goals rw[eR]at hC adv9
   all_goals have hC2:chordsD ts fc' (xs++[x]) q=C:=hC
   all_goals have kbp:hp[kb]?=some ⟨0,90,[strC nm,N]⟩:=f.at kb9 hki
   all_goals have hbl:=(List.getElem?_eq_some_iff.1 kbp).1
   all_goals have hff:=f.1
   all_goals have Gp:=G9.fr0 f (fun k e=>by have e:k=i:=e;omega)
   all_goals have hl9:∀ k,nbk N k→k<h9.length:=fun k hk=>(G9.lt hk).2
   all_goals have g7:∀ l,(hp++l)[kb]?=some ⟨0,90,[strC nm,N]⟩:=fun l=>(List.getElem?_append_left hbl).trans kbp
   all_goals have s6:∀ l c,(hp++l).set kb c=hp.set kb c++l:=fun l c=>List.set_append_left _ _ hbl
   all_goals have hel:RdL (fun k=>k<kb+1∨nbk N k) hp x.cells [strC x.name,x1,x2,x3]:=hcl.up (Fr.refl NoB hp) (fun k e=>e.elim) fun k e _=>e.elim (fun e=>by show k<h9.length;omega) fun e=>hl9 k e
   all_goals have hxe:(xs++[x]).length=xs.length+1:=by simp
   all_goals have hxf:(xs++[x]).flatMap Ch.cells=xs.flatMap Ch.cells++x.cells:=by simp
   all_goals have Fpp:=F9.trans (IO.i (n0:=kb) f) fun k e=>.inl e
   all_goals rcases Gp with⟨rfl,e0,e1⟩|⟨j,ver,cs,rfl,hnn,hj0,hj,hl,hrd⟩
   all_goals first
    |(have e0':=e0
      simp only[evR,rR_bs,seqT,List.getElem?_toArray,List.getElem?_cons_succ,List.getElem?_cons_zero,tyD,kbp,g7,o1,g1,o2,g2,o3,g3,strC,at_len,at_len1,s6,setMany,List.set_cons_zero,List.set_cons_succ,List.nil_append,List.append_assoc,List.cons_append,evG,tyX,Bool.not_true,Bool.not_false,Nat.reduceAdd,Nat.reduceSub,Nat.reduceMul,Nat.reduceLT,Nat.reduceLeDiff,Nat.reduceEqDiff,reduceCtorEq,List.reduceReplicate,Int.reduceToNat,Int.reduceLE,Int.reduceLT]
      have GQ:=(GL.nil (n0:=kb+1) (t:=59) (sz:=4) (h:=hp)).push (h':=hp.set kb ⟨0,90,[strC nm,.own (hp.length+1) 0 1]⟩++[⟨0,59,[strC x.name,x1,x2,x3]⟩,⟨0,59,[strC x.name,x1,x2,x3]⟩]) (j':=hp.length+1) (ver':=0) (xs:=[]) (es:=[strC x.name,x1,x2,x3]) (ecs:=x.cells) (fun j ver e=>by cases e) (fun _=>⟨by omega,rfl⟩) (by omega) ((Fr.set _ (.inl (Nat.lt_succ_self _))).trans (Fr.app (S:=NoB) _ _) fun k e=>e.elim) (at_lenS1 _ _ _ _ _ _) rfl hel
      refine hK _ ⟨(q,_),⟨rfl,rfl,⟨rfl,rfl,rfl,trivial⟩,rfl⟩,by have:=adv9.1;show p<q;omega,xs++[x],.own (hp.length+1) 0 1,fc',adv9.2,by have:=adv9.1;show p7≤q;omega,by rw[hxe];have:=adv9.1;show xs.length+1≤q;omega,?_,?_,by rw[hxe,hxf,e0,e1];exact GQ,?_,hC2,by have:=adv9.1;show ts.length<fc'+q;omega⟩
      ·exact (List.getElem?_append_left (by rw[List.length_set];exact rp.lt)).trans ((List.getElem?_set_ne hki).trans rp)
      ·exact (List.getElem?_append_left (by rw[List.length_set];exact hbl)).trans (List.getElem?_set_self hbl)
      ·exact Fpp.trans ((Fr.set (S:=IO i kb) _ (.inr (Nat.le_refl _))).trans (Fr.app (S:=NoB) _ _) fun k e=>e.elim) fun k e=>.inl e)
    |(have hjl:=(List.getElem?_eq_some_iff.1 hj).1
      have hjb:j≠kb:=by omega
      have hji:j≠i:=by omega
      have q1:∀ l,(hp++l)[j]?=some ⟨ver,59,cs⟩:=fun l=>(List.getElem?_append_left hjl).trans hj
      have s8:∀ l c,(hp++l).set j c=hp.set j c++l:=fun l c=>List.set_append_left _ _ hjl
      have g9:∀ l c,(hp.set j c++l)[kb]?=some ⟨0,90,[strC nm,.own j ver xs.length]⟩:=fun l c=>(List.getElem?_append_left (by rw[List.length_set];exact hbl)).trans ((List.getElem?_set_ne hjb).trans kbp)
      have s9:∀ l c d,(hp.set j c++l).set kb d=(hp.set j c).set kb d++l:=fun l c d=>List.set_append_left _ _ (by rw[List.length_set];exact hbl)
      have hl':cs.length=xs.length * 4:=hl
      have q4:List.take (xs.length * 4) cs=cs:=List.take_of_length_le (by omega)
      have q6:xs.length * 4≤cs.length:=by omega
      simp only[evR,rR_bs,seqT,List.getElem?_toArray,List.getElem?_cons_succ,List.getElem?_cons_zero,tyD,kbp,g7,o1,g1,o2,g2,o3,g3,strC,at_len,at_len1,s6,q1,s8,g9,s9,q4,q6,setMany,List.set_cons_zero,List.set_cons_succ,List.nil_append,List.append_assoc,List.cons_append,evG,tyX,Bool.not_true,Bool.not_false,Nat.reduceAdd,Nat.reduceSub,Nat.reduceMul,Nat.reduceLT,Nat.reduceLeDiff,Nat.reduceEqDiff,reduceCtorEq,List.reduceReplicate,Int.reduceToNat,Int.reduceLE,Int.reduceLT]
      have GQ:=GL.push (h:=hp) (N:=.own j ver xs.length) (.inr ⟨j,ver,cs,rfl,hnn,hj0,hj,hl,hrd⟩) (h':=(hp.set j ⟨ver+1,59,cs++[strC x.name,x1,x2,x3]⟩).set kb ⟨0,90,[strC nm,.own j (ver+1) (xs.length+1)]⟩++[⟨0,59,[strC x.name,x1,x2,x3]⟩]) (j':=j) (ver':=ver+1) (xs:=cs) (es:=[strC x.name,x1,x2,x3]) (ecs:=x.cells) (fun j2 ver2 e=>by cases e;exact⟨rfl,hj⟩) (fun e=>by cases e) (by omega) (((Fr.set (S:=fun k=>k<kb+1∨nbk (.own j ver xs.length) k) _ (.inr rfl)).trans (Fr.set (S:=fun k=>k<kb+1∨nbk (.own j ver xs.length) k) _ (.inl (Nat.lt_succ_self _))) fun k e=>.inl e).trans (Fr.app (S:=NoB) _ _) fun k e=>e.elim) ((List.getElem?_append_left (by rw[List.length_set,List.length_set];exact hjl)).trans ((List.getElem?_set_ne hjb.symm).trans (List.getElem?_set_self hjl))) rfl hel
      refine⟨by omega,hK _ ⟨(q,_),⟨rfl,rfl,⟨rfl,rfl,rfl,trivial⟩,rfl⟩,by have:=adv9.1;show p<q;omega,xs++[x],.own j (ver+1) (xs.length+1),fc',adv9.2,by have:=adv9.1;show p7≤q;omega,by rw[hxe];have:=adv9.1;show xs.length+1≤q;omega,?_,?_,by rw[hxe,hxf];exact GQ,?_,hC2,by have:=adv9.1;show ts.length<fc'+q;omega⟩⟩
      ·exact (List.getElem?_append_left (by rw[List.length_set,List.length_set];exact rp.lt)).trans ((List.getElem?_set_ne hki).trans ((List.getElem?_set_ne hji).trans rp))
      ·exact (List.getElem?_append_left (by rw[List.length_set,List.length_set];exact hbl)).trans (List.getElem?_set_self (by rw[List.length_set];exact hbl))
      ·exact Fpp.trans (((Fr.set (S:=IO i kb) _ (.inr (by omega))).trans (Fr.set (S:=IO i kb) _ (.inr (Nat.le_refl _))) fun k e=>.inl e).trans (Fr.app (S:=NoB) _ _) fun k e=>e.elim) fun k e=>.inl e)
def zPg:Pg:=⟨[],[]⟩
def progR(ts:List Tk):DR Pg:=progD ts (ts.length+1) zPg 0
def progO(l:List UInt8):Pg×Int×Int:=readO zPg progR l
end Go.Proofs.YtlobiioioicmhaaGreatDoor
