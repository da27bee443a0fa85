/- A part of the proof. -/
import Derived.Test.YtlobiioioicmhaaGreatDoorDQ15
set_option linter.all false
set_option maxHeartbeats 8000000
namespace Go.Proofs.YtlobiioioicmhaaGreatDoor.O
open _root_.List renaming getElem?_eq_some_iff→Bs,getElem?_append_left→Ba,getElem?_append_right→Br,getElem?_set_self→Be,getElem?_set_ne→Bn,length_set→Bl,length_append→Bp,append_assoc→Bo,cons_append→Bc,nil_append→Bi,set_cons_zero→Bx,set_cons_succ→Bw,set_append_left→Bg,take_of_length_le→Bt,map_cons→BA,length_cons→BC,length_nil→BD,append_nil→BS
open _root_.Nat renaming le_trans→BM,zero_le→BN
open Go.Proofs.Tryz renaming prog→Tp
open Go Go.Ev
set_option maxRecDepth 20000
variable {γ:List (Nat×AV)}
theorem LN.back{t:TypeId}{sz:Nat}{h h':List ABlk}{N:AV}{n:Nat}{S:Nat→Prop}(a:LN t sz h' N n)(f:Fr S h h')(hS:∀ k,nbk N k→k<h.length∧¬S k):LN t sz h N n:=by
 rcases a with a|⟨j,ver,cs,rfl,hn,hj,hl⟩
 ·exact .inl a
 ·exact .inr ⟨j,ver,cs,rfl,hn,(f.2 j (hS j rfl).1 (hS j rfl).2).symm.trans hj,hl⟩
theorem Co.back{t:TypeId}{sz:Nat}{h h':List ABlk}{F:List Nat}{Xs:List AV}{ns:List Nat}{S:Nat→Prop}(a:Co t sz h' Xs ns F)(f:Fr S h h')(hS:∀ k∈F,k<h.length∧¬S k):Co t sz h Xs ns F:=
 ⟨a.len,fun i N n e e'=>⟨(a.ln i N n e e').1.back f fun k hk=>hS k (a.mem N (List.mem_of_getElem? e) k hk),(a.ln i N n e e').2⟩,a.dj,a.mem⟩
noncomputable def c44k:Code:=(Tryz.f44.body.bind (pathE [1,1,1,1,1,0,1,2,3])).getD .skip
noncomputable def c44c:Code:=(Tryz.f44.body.bind (pathE [1,1,1,1,1,0,1,2,3,1,0,2,1,2,3])).getD .skip
noncomputable def c44p:Code:=(Tryz.f44.body.bind (pathE [1,1,1,1,1,0,1,2,3,1,0,2,1,2,3,1,0,2,1,1,0,1,2,3])).getD .skip
noncomputable def c44b:Code:=(Tryz.f44.body.bind (pathE [1,1,1,1,1,0,1,2,3,1,0,2,1,2,3,1,0,2,1,1,1,1,2,3])).getD .skip
noncomputable def c44x:Code:=(Tryz.f44.body.bind (pathE [1,1,1,1,1,0,1,2,3,1,0,2,1,2,3,1,0,2,1,1,1,1,2,3,1,0,2,1,1,2,3])).getD .skip
def gpS(γ:List (Nat×AV))(b bc ik ic:Nat)(A3 A5:AV)(y:Nat×AV×List ABlk):St:=⟨⟨362,[(1,.ptr b 0 0),(3,A3),(4,y.2.1),(5,A5),(7,.v (.int .i64 (ik:Int))),(8,.v (.int .i64 (ic:Int))),(9,.ptr bc 0 0),(10,.v (.int .i64 (y.1:Int)))],γ⟩,y.2.2⟩
theorem ap_parts{E:AV→St→Prop}{Q:Post}{l0:List (Nat×AV)}{hh:List ABlk}{b bc ik ic n0:Nat}{A3 A4 A5 s0 P G B:AV}{Ns0:List AV}{es:List Pt}{FP:List Nat}
  (e1:Go.Ev.look l0 1=.ptr b 0 0) (e3:Go.Ev.look l0 3=A3) (e4:Go.Ev.look l0 4=A4) (e5:Go.Ev.look l0 5=A5) (e7:Go.Ev.look l0 7=.v (.int .i64 (ik:Int))) (e8:Go.Ev.look l0 8=.v (.int .i64 (ic:Int))) (e9:Go.Ev.look l0 9=.ptr bc 0 0) (e10:Go.Ev.look l0 10=.v (.int .i64 0))
  (kc:hh[bc]?=some ⟨0,59,[s0,P,G,B]⟩) (oP:ow (partsA es) hh (.s 130) P FP) (hF:FP.Nodup) (ha:AR 128 n0 hh A4 Ns0) (hn0:n0≤hh.length) (hcA:¬nbk A4 bc) (hFA:∀ k∈FP,¬nbk A4 k) (hcnt:Ns0.length+es.length≤1000000) (hv:∀ p∈es,p.vars.length≤2000000)
  (hQ:∀ l1 h1 A4' Xs ns,Go.Ev.look l1 1=.ptr b 0 0→Go.Ev.look l1 3=A3→Go.Ev.look l1 4=A4'→Go.Ev.look l1 5=A5→Go.Ev.look l1 7=.v (.int .i64 (ik:Int))→Go.Ev.look l1 8=.v (.int .i64 (ic:Int))→Go.Ev.look l1 9=.ptr bc 0 0→Fr (nbk A4) hh h1→AR 128 n0 h1 A4' (Ns0++Xs)→(∀ k,nbk A4' k→nbk A4 k∨hh.length≤k)→Co 9 1 hh Xs ns FP→Xs.length=es.length→Q (.exit 6) ⟨⟨362,l1,γ⟩,h1⟩):LoopE (fun Q s=>kwpE Tp E c44p Q s) Q ⟨⟨362,l0,γ⟩,hh⟩:=by
 have d0:decide (((0:Nat):Int)<0)=false:=rfl
 rcases ow_list oP with⟨rfl,rfl,rfl⟩|⟨jp,vp,F',rfl,hl0,rfl,A⟩
 ·refine LoopE.intro (gpS γ b bc ik ic A3 A5) (fun y=>y=(0,A4,hh)) (fun y=>0) (0,A4,hh) ⟨rfl,rfl,⟨e1,e3,e4,e5,e7,e8,e9,e10,trivial⟩,rfl⟩ rfl (fun y hy=>?_);subst hy;simp only[c44p,Tryz.f44,pathE,Option.bind_some,Option.getD_some,gpS,tyD,tyO,d0,kc,evE,Nat.reduceLT,Nat.reduceEqDiff,reduceCtorEq];exact hQ _ _ _ [] [] rfl rfl rfl rfl rfl rfl rfl (Fr.refl _ _) (by rw[BS];exact ha) (fun k e=>.inl e) Co.nil rfl
 obtain⟨hj0,hF'⟩:=List.nodup_cons.1 hF;have hlF:=fun k hk=>ow_lt _ _ _ _ oP k hk
 generalize hnt:es.length=nt at *
 refine LoopE.intro (gpS γ b bc ik ic A3 A5) (fun y=>∃ (dn:List AV) (l:List Pt) (FD FR:List Nat) (Xs:List AV) (ns:List Nat),y.1+l.length=nt∧dn.length=y.1 * 2∧Arr 130 Pt.cells hh jp vp dn l FR∧FD++FR=F'∧(∀ p∈l,p∈es)∧Fr (nbk A4) hh y.2.2∧AR 128 n0 y.2.2 y.2.1 (Ns0++Xs)∧(∀ k,nbk y.2.1 k→nbk A4 k∨hh.length≤k)∧Co 9 1 hh Xs ns FD∧Xs.length=y.1) (fun y=>nt-y.1) (0,A4,hh) ⟨rfl,rfl,⟨e1,e3,e4,e5,e7,e8,e9,e10,trivial⟩,rfl⟩
  ⟨[],es,[],F',[],[],by simpa using hnt,rfl,A,rfl,fun p h=>h,Fr.refl _ _,by rw[BS];exact ha,fun k e=>.inl e,Co.nil,rfl⟩ (fun y hy=>?_)
 clear A;obtain⟨i,A',h1⟩:=y;obtain⟨dn,l,FD,FR,Xs,ns,hil,hdn,A,hFF,hl,f1,a3,hA',co,hNi⟩:=hy;simp only at hil hdn f1 a3 hA' hNi;have kc1:=f1.at kc hcA;cases l with
 |nil=>
  have hi:i=nt:=hil;have d1:decide (i<nt)=false:=decide_eq_false (by omega);obtain⟨cs,hj,hcl⟩:=(A.fr f1 (hFA _ (List.mem_cons_self ..)) (fun k hk=>hFA k (List.mem_cons_of_mem _ (by rw[←hFF];exact List.mem_append_right _ hk)))).length;simp only[c44p,Tryz.f44,pathE,Option.bind_some,Option.getD_some,gpS,tyD,tyO,kc1,hj,d1,evE,Nat.reduceLT,Nat.reduceEqDiff,reduceCtorEq];refine hQ _ _ A' Xs ns ?_ ?_ ?_ ?_ ?_ ?_ ?_ f1 a3 hA' (co.mono fun k h=>List.mem_cons_of_mem _ (by rw[←hFF];exact List.mem_append_left _ h)) (by omega)
  all_goals rfl
 |cons x l=>
  have hlt:i<nt:=by rw[BC]at hil;omega
  have d1:decide (i<nt)=true:=decide_eq_true hlt;obtain⟨xs1,xs2,F1,F2,rfl,kp,hx1,o1,o2⟩:=A.cons (by rfl);obtain⟨V,rfl,oV⟩:=pt_inv o1;have kp1:=f1.at kp (hFA _ (List.mem_cons_self ..))
  have hV:(dn++strC x.tag::V::xs2)[i * 2+1]?=some V:=by
   rw[Br (by omega),hdn,show i * 2+1-i * 2=1 by omega];rfl
  rw[strsA_sl]at oV;obtain⟨LV,hVF⟩:=ow_LN oV rfl;obtain⟨oV1,fV1⟩:=LV.one;have hvn:=hv x (hl x (List.mem_cons_self ..));have w1:IntKind.i64.wrap ((i:Int)+1)=((i+1:Nat):Int):=(i64w (by omega) (by omega)).trans (by omega);have hFN:=List.nodup_append.1 (hFF▸hF')
  have fin:∀ (hq:List ABlk) (A2:AV),Push 128 n0 A' (Ns0++Xs) h1 V A2 hq→∃ (dn:List AV) (l:List Pt) (FD FR:List Nat) (Xs:List AV) (ns:List Nat),i+1+l.length=nt∧dn.length=(i+1) * 2∧Arr 130 Pt.cells hh jp vp dn l FR∧FD++FR=F'∧(∀ p∈l,p∈es)∧Fr (nbk A4) hh hq∧AR 128 n0 hq A2 (Ns0++Xs)∧(∀ k,nbk A2 k→nbk A4 k∨hh.length≤k)∧Co 9 1 hh Xs ns FD∧Xs.length=i+1:=fun hq A2 hp=>by
   refine⟨dn++[strC x.tag,V],l,FD++F1,F2,Xs++[V],ns++[x.vars.length],by rw[BC]at hil;omega,by rw[Bp,hdn];simp only[BC,BD];omega,⟨xs2,by rw[kp];simp,o2⟩,by rw[Bo];exact hFF,fun p h=>hl p (List.mem_cons_of_mem _ h),f1.trans hp.2.1 hA',by have:=hp.1;rwa [Bo]at this,fun k e=>(hp.2.2 k e).elim (hA' k) fun e=>.inr (BM f1.1 e),?_,by rw[Bp,hNi];rfl⟩;exact co.append (Co.one LV hvn hVF) (fun k h1 h2=>hFN.2.2 k h1 k (List.mem_append_left _ h2) rfl) (fun k h=>List.mem_append_left _ h) fun k h=>List.mem_append_right _ h
  have hNX:(Ns0++Xs).length≤1000000:=by rw[Bp];omega
  clear kc A o1 o2 hQ
  rcases a3 with⟨rfl,e0⟩|⟨j,ver,rfl,hNl,hj0',hj⟩
  ·rw[e0]at fin;simp only[c44p,Tryz.f44,pathE,Option.bind_some,Option.getD_some,gpS,tyD,tyO,kc1,kp1,d1,hV,oV1,fV1,w1,at_len,setMany,Bx,Bo,Bc,Bi,evE,Nat.reduceLT,Nat.reduceLeDiff,Nat.reduceEqDiff,reduceCtorEq,List.reduceReplicate];refine⟨hlt,loopCE.intro (i+1,_,_) (fin _ _ ⟨.inr ⟨h1.length+1,0,rfl,Nat.succ_pos _,by have:=f1.1;omega,at_len1 _ _ _ _⟩,Fr.app _ _,fun k e=>.inr (by have e:k=h1.length+1:=e;omega)⟩) ⟨rfl,rfl,⟨rfl,rfl,rfl,rfl,rfl,rfl,rfl,rfl,trivial⟩,rfl⟩ (by show nt-(i+1)<nt-i;clear w1;omega)⟩
  ·have hjl:=(Bs.1 hj).1;generalize hNN:(Ns0++Xs).length=nn at *;have gj:∀ l,(h1++l)[j]?=some ⟨ver,128,Ns0++Xs⟩:=fun l=>(Ba hjl).trans hj
   have sj:∀ l c,(h1++l).set j c=h1.set j c++l:=fun l c=>Bg _ _ hjl
   have q4:List.take nn (Ns0++Xs)=Ns0++Xs:=Bt (by omega);have q6:nn≤Ns0.length+Xs.length:=by rw[Bp]at hNN;omega
   have q7:nn≤(Ns0++Xs).length:=by omega
   simp only[c44p,Tryz.f44,pathE,Option.bind_some,Option.getD_some,gpS,tyD,tyO,kc1,kp1,d1,hV,oV1,fV1,w1,gj,sj,q4,q6,at_len,setMany,Bx,Bc,Bi,evE,Nat.reduceLT,Nat.reduceLeDiff,Nat.reduceEqDiff,reduceCtorEq,List.reduceReplicate];refine⟨hlt,by clear w1;omega,loopCE.intro (i+1,_,_) (fin _ (.own j (ver+1) (nn+1)) ⟨.inr ⟨j,ver+1,by rw[Bp,hNN];rfl,by rw[Bp];exact Nat.succ_pos _,hj0',(Ba (by rw[Bl];exact hjl)).trans (Be hjl)⟩,(Fr.set (S:=nbk (.own j ver nn)) _ rfl).trans (Fr.app (S:=NoB) _ _) fun k e=>e.elim,fun k e=>.inl e⟩) ⟨rfl,rfl,⟨rfl,rfl,rfl,rfl,rfl,rfl,rfl,rfl,trivial⟩,rfl⟩ (by show nt-(i+1)<nt-i;clear w1;omega)⟩
def gxS(γ:List (Nat×AV))(b bc ik ic ib:Nat)(A3 A4:AV)(y:Nat×AV×List ABlk):St:=⟨⟨362,[(1,.ptr b 0 0),(3,A3),(4,A4),(5,y.2.1),(7,.v (.int .i64 (ik:Int))),(8,.v (.int .i64 (ic:Int))),(9,.ptr bc 0 0),(11,.v (.int .i64 (ib:Int))),(12,.v (.int .i64 (y.1:Int)))],γ⟩,y.2.2⟩
theorem ap_args{E:AV→St→Prop}{Q:Post}{l0:List (Nat×AV)}{hh:List ABlk}{b bc ik ic ib n0 jb vb nb:Nat}{A3 A4 A5 s0 P G AA:AV}{cb Ns0:List AV}{es:List (List Nd)}{FA:List Nat}
  (e1:Go.Ev.look l0 1=.ptr b 0 0) (e3:Go.Ev.look l0 3=A3) (e4:Go.Ev.look l0 4=A4) (e5:Go.Ev.look l0 5=A5) (e7:Go.Ev.look l0 7=.v (.int .i64 (ik:Int))) (e8:Go.Ev.look l0 8=.v (.int .i64 (ic:Int))) (e9:Go.Ev.look l0 9=.ptr bc 0 0) (e11:Go.Ev.look l0 11=.v (.int .i64 (ib:Int))) (e12:Go.Ev.look l0 12=.v (.int .i64 0))
  (kc:hh[bc]?=some ⟨0,59,[s0,P,G,.own jb vb nb]⟩) (kq:hh[jb]?=some ⟨vb,135,cb⟩) (hib:ib<nb) (hAA:cb[ib * 5+4]?=some AA) (oA:ow (expsA es) hh (.s 41) AA FA) (hF:FA.Nodup) (ha:AR 39 n0 hh A5 Ns0) (hn0:n0≤hh.length) (hcA:¬nbk A5 bc) (hqA:¬nbk A5 jb) (hFA:∀ k∈FA,¬nbk A5 k) (hcnt:Ns0.length+es.length≤1000000) (hv:∀ p∈es,p.length≤2000000)
  (hQ:∀ l1 h1 A5' Xs ns,Go.Ev.look l1 1=.ptr b 0 0→Go.Ev.look l1 3=A3→Go.Ev.look l1 4=A4→Go.Ev.look l1 5=A5'→Go.Ev.look l1 7=.v (.int .i64 (ik:Int))→Go.Ev.look l1 8=.v (.int .i64 (ic:Int))→Go.Ev.look l1 9=.ptr bc 0 0→Go.Ev.look l1 11=.v (.int .i64 (ib:Int))→Fr (nbk A5) hh h1→AR 39 n0 h1 A5' (Ns0++Xs)→(∀ k,nbk A5' k→nbk A5 k∨hh.length≤k)→Co 115 9 hh Xs ns FA→Xs.length=es.length→Q (.exit 10) ⟨⟨362,l1,γ⟩,h1⟩):LoopE (fun Q s=>kwpE Tp E c44x Q s) Q ⟨⟨362,l0,γ⟩,hh⟩:=by
 have d0:decide (((0:Nat):Int)<0)=false:=rfl;rw[expsA_sl]at oA
 rcases ow_list oA with⟨rfl,rfl,rfl⟩|⟨jp,vp,F',rfl,hl0,rfl,A⟩
 ·refine LoopE.intro (gxS γ b bc ik ic ib A3 A4) (fun y=>y=(0,A5,hh)) (fun y=>0) (0,A5,hh) ⟨rfl,rfl,⟨e1,e3,e4,e5,e7,e8,e9,e11,e12,trivial⟩,rfl⟩ rfl (fun y hy=>?_);subst hy;simp only[c44x,Tryz.f44,pathE,Option.bind_some,Option.getD_some,gxS,tyD,tyO,d0,kc,kq,hAA,evE,Nat.reduceLT,Nat.reduceEqDiff,reduceCtorEq];exact⟨hib,hQ _ _ _ [] [] rfl rfl rfl rfl rfl rfl rfl rfl (Fr.refl _ _) (by rw[BS];exact ha) (fun k e=>.inl e) Co.nil rfl⟩
 obtain⟨hj0,hF'⟩:=List.nodup_cons.1 hF;generalize hnt:es.length=nt at *
 refine LoopE.intro (gxS γ b bc ik ic ib A3 A4) (fun y=>∃ (dn:List AV) (l:List (List Nd)) (FD FR:List Nat) (Xs:List AV) (ns:List Nat),y.1+l.length=nt∧dn.length=y.1∧Arr 41 encX hh jp vp dn l FR∧FD++FR=F'∧(∀ p∈l,p∈es)∧Fr (nbk A5) hh y.2.2∧AR 39 n0 y.2.2 y.2.1 (Ns0++Xs)∧(∀ k,nbk y.2.1 k→nbk A5 k∨hh.length≤k)∧Co 115 9 hh Xs ns FD∧Xs.length=y.1) (fun y=>nt-y.1) (0,A5,hh) ⟨rfl,rfl,⟨e1,e3,e4,e5,e7,e8,e9,e11,e12,trivial⟩,rfl⟩
  ⟨[],es,[],F',[],[],by simpa using hnt,rfl,A,rfl,fun p h=>h,Fr.refl _ _,by rw[BS];exact ha,fun k e=>.inl e,Co.nil,rfl⟩ (fun y hy=>?_)
 clear A;obtain⟨i,A',h1⟩:=y;obtain⟨dn,l,FD,FR,Xs,ns,hil,hdn,A,hFF,hl,f1,a3,hA',co,hNi⟩:=hy;simp only at hil hdn f1 a3 hA' hNi;have kc1:=f1.at kc hcA;have kq1:=f1.at kq hqA;cases l with
 |nil=>
  have hi:i=nt:=hil;have d1:decide (i<nt)=false:=decide_eq_false (by omega);obtain⟨cs,hj,hcl⟩:=(A.fr f1 (hFA _ (List.mem_cons_self ..)) (fun k hk=>hFA k (List.mem_cons_of_mem _ (by rw[←hFF];exact List.mem_append_right _ hk)))).length;simp only[c44x,Tryz.f44,pathE,Option.bind_some,Option.getD_some,gxS,tyD,tyO,kc1,kq1,hAA,hj,d1,evE,Nat.reduceLT,Nat.reduceEqDiff,reduceCtorEq];refine⟨hib,hQ _ _ A' Xs ns ?_ ?_ ?_ ?_ ?_ ?_ ?_ ?_ f1 a3 hA' (co.mono fun k h=>List.mem_cons_of_mem _ (by rw[←hFF];exact List.mem_append_left _ h)) (by omega)⟩
  all_goals rfl
 |cons x l=>
  have hlt:i<nt:=by rw[BC]at hil;omega
  have d1:decide (i<nt)=true:=decide_eq_true hlt;obtain⟨xs1,xs2,F1,F2,rfl,kp,hx1,o1,o2⟩:=A.cons (by rfl);obtain⟨V,rfl,oV⟩:=ex_inv o1;have kp1:=f1.at kp (hFA _ (List.mem_cons_self ..))
  have hV:(dn++V::xs2)[i]?=some V:=by
   rw[Br (by omega),hdn,Nat.sub_self];rfl
  rw[nodesA_sl]at oV;obtain⟨LV,hVF⟩:=ow_LN oV rfl;obtain⟨oV1,fV1⟩:=LV.one;have hvn:=hv x (hl x (List.mem_cons_self ..));have w1:IntKind.i64.wrap ((i:Int)+1)=((i+1:Nat):Int):=(i64w (by omega) (by omega)).trans (by omega);have hFN:=List.nodup_append.1 (hFF▸hF')
  have fin:∀ (hq:List ABlk) (A2:AV),Push 39 n0 A' (Ns0++Xs) h1 V A2 hq→∃ (dn:List AV) (l:List (List Nd)) (FD FR:List Nat) (Xs:List AV) (ns:List Nat),i+1+l.length=nt∧dn.length=(i+1)∧Arr 41 encX hh jp vp dn l FR∧FD++FR=F'∧(∀ p∈l,p∈es)∧Fr (nbk A5) hh hq∧AR 39 n0 hq A2 (Ns0++Xs)∧(∀ k,nbk A2 k→nbk A5 k∨hh.length≤k)∧Co 115 9 hh Xs ns FD∧Xs.length=i+1:=fun hq A2 hp=>by
   refine⟨dn++[V],l,FD++F1,F2,Xs++[V],ns++[x.length],by rw[BC]at hil;omega,by rw[Bp,hdn];rfl,⟨xs2,by rw[kp];simp,o2⟩,by rw[Bo];exact hFF,fun p h=>hl p (List.mem_cons_of_mem _ h),f1.trans hp.2.1 hA',by have:=hp.1;rwa [Bo]at this,fun k e=>(hp.2.2 k e).elim (hA' k) fun e=>.inr (BM f1.1 e),?_,by rw[Bp,hNi];rfl⟩;exact co.append (Co.one LV hvn hVF) (fun k h1 h2=>hFN.2.2 k h1 k (List.mem_append_left _ h2) rfl) (fun k h=>List.mem_append_left _ h) fun k h=>List.mem_append_right _ h
  have hNX:(Ns0++Xs).length≤1000000:=by rw[Bp];omega
  clear kc A o1 o2 hQ
  rcases a3 with⟨rfl,e0⟩|⟨j,ver,rfl,hNl,hj0',hj⟩
  ·rw[e0]at fin;simp only[c44x,Tryz.f44,pathE,Option.bind_some,Option.getD_some,gxS,tyD,tyO,kc1,kq1,hAA,kp1,d1,hV,oV1,fV1,w1,at_len,setMany,Bx,Bo,Bc,Bi,evE,tyX,Nat.reduceLT,Nat.reduceLeDiff,Nat.reduceEqDiff,reduceCtorEq,List.reduceReplicate];refine⟨hib,hib,hlt,loopCE.intro (i+1,_,_) (fin _ _ ⟨.inr ⟨h1.length+1,0,rfl,Nat.succ_pos _,by have:=f1.1;omega,at_len1 _ _ _ _⟩,Fr.app _ _,fun k e=>.inr (by have e:k=h1.length+1:=e;omega)⟩) ⟨rfl,rfl,⟨rfl,rfl,rfl,rfl,rfl,rfl,rfl,rfl,rfl,trivial⟩,rfl⟩ (by show nt-(i+1)<nt-i;clear w1;omega)⟩
  ·have hjl:=(Bs.1 hj).1;generalize hNN:(Ns0++Xs).length=nn at *;have gj:∀ l,(h1++l)[j]?=some ⟨ver,39,Ns0++Xs⟩:=fun l=>(Ba hjl).trans hj
   have sj:∀ l c,(h1++l).set j c=h1.set j c++l:=fun l c=>Bg _ _ hjl
   have q4:List.take nn (Ns0++Xs)=Ns0++Xs:=Bt (by omega);have q6:nn≤Ns0.length+Xs.length:=by rw[Bp]at hNN;omega
   have q7:nn≤(Ns0++Xs).length:=by omega
   simp only[c44x,Tryz.f44,pathE,Option.bind_some,Option.getD_some,gxS,tyD,tyO,kc1,kq1,hAA,kp1,d1,hV,oV1,fV1,w1,gj,sj,q4,q6,at_len,setMany,Bx,Bc,Bi,evE,tyX,Nat.reduceLT,Nat.reduceLeDiff,Nat.reduceEqDiff,reduceCtorEq,List.reduceReplicate];refine⟨hib,hib,hlt,by clear w1;omega,loopCE.intro (i+1,_,_) (fin _ (.own j (ver+1) (nn+1)) ⟨.inr ⟨j,ver+1,by rw[Bp,hNN];rfl,by rw[Bp];exact Nat.succ_pos _,hj0',(Ba (by rw[Bl];exact hjl)).trans (Be hjl)⟩,(Fr.set (S:=nbk (.own j ver nn)) _ rfl).trans (Fr.app (S:=NoB) _ _) fun k e=>e.elim,fun k e=>.inl e⟩) ⟨rfl,rfl,⟨rfl,rfl,rfl,rfl,rfl,rfl,rfl,rfl,rfl,trivial⟩,rfl⟩ (by show nt-(i+1)<nt-i;clear w1;omega)⟩
theorem wB_len:∀ l:List Ac,l.length≤wB l
 |[]=>BN _
 |x::l=>by have:=wB_len l;simp only[wB,wA,BC,BA,List.sum_cons]at *;omega
def gbS(γ:List (Nat×AV))(b bc ik ic:Nat)(A3 A4:AV)(y:Nat×AV×List ABlk):St:=⟨⟨362,[(1,.ptr b 0 0),(3,A3),(4,A4),(5,y.2.1),(7,.v (.int .i64 (ik:Int))),(8,.v (.int .i64 (ic:Int))),(9,.ptr bc 0 0),(11,.v (.int .i64 (y.1:Int)))],γ⟩,y.2.2⟩
def InvB(n0:Nat)(hh:List ABlk)(A5:AV)(Ns0:List AV)(es:List Ac)(jb vb nt:Nat)(F':List Nat)(y:Nat×AV×List ABlk):Prop:=
 ∃ (dn:List AV) (l:List Ac) (FD FR:List Nat) (Xs:List AV) (ns:List Nat),y.1+l.length=nt∧dn.length=y.1 * 5∧Arr 135 Ac.cells hh jb vb dn l FR∧FD++FR=F'∧(∀ p∈l,p∈es)∧Fr (nbk A5) hh y.2.2∧AR 39 n0 y.2.2 y.2.1 (Ns0++Xs)∧(∀ k,nbk y.2.1 k→nbk A5 k∨hh.length≤k)∧Co 115 9 hh Xs ns FD∧Xs.length+wB l=wB es
theorem ap_body{E:AV→St→Prop}{Q:Post}{l0:List (Nat×AV)}{hh:List ABlk}{b bc ik ic n0:Nat}{A3 A4 A5 s0 P G B:AV}{Ns0:List AV}{es:List Ac}{FB:List Nat}
  (e1:Go.Ev.look l0 1=.ptr b 0 0) (e3:Go.Ev.look l0 3=A3) (e4:Go.Ev.look l0 4=A4) (e5:Go.Ev.look l0 5=A5) (e7:Go.Ev.look l0 7=.v (.int .i64 (ik:Int))) (e8:Go.Ev.look l0 8=.v (.int .i64 (ic:Int))) (e9:Go.Ev.look l0 9=.ptr bc 0 0) (e11:Go.Ev.look l0 11=.v (.int .i64 0))
  (kc:hh[bc]?=some ⟨0,59,[s0,P,G,B]⟩) (oB:ow (actsA es) hh (.s 135) B FB) (hF:FB.Nodup) (ha:AR 39 n0 hh A5 Ns0) (hn0:n0≤hh.length) (hcA:¬nbk A5 bc) (hFA:∀ k∈FB,¬nbk A5 k) (hcnt:Ns0.length+wB es≤1000000) (hv:∀ a∈es,okAc a)
  (hQ:∀ l1 h1 A5' Xs ns,Go.Ev.look l1 1=.ptr b 0 0→Go.Ev.look l1 3=A3→Go.Ev.look l1 4=A4→Go.Ev.look l1 5=A5'→Go.Ev.look l1 7=.v (.int .i64 (ik:Int))→Go.Ev.look l1 8=.v (.int .i64 (ic:Int))→Fr (nbk A5) hh h1→AR 39 n0 h1 A5' (Ns0++Xs)→(∀ k,nbk A5' k→nbk A5 k∨hh.length≤k)→Co 115 9 hh Xs ns FB→Xs.length=wB es→Q (.exit 8) ⟨⟨362,l1,γ⟩,h1⟩):LoopE (fun Q s=>kwpE Tp E c44b Q s) Q ⟨⟨362,l0,γ⟩,hh⟩:=by
 have d0:decide (((0:Nat):Int)<0)=false:=rfl;have hbl:=(Bs.1 kc).1
 rcases ow_list oB with⟨rfl,rfl,rfl⟩|⟨jb,vb,F',rfl,hl0,rfl,A⟩
 ·refine LoopE.intro (gbS γ b bc ik ic A3 A4) (fun y=>y=(0,A5,hh)) (fun y=>0) (0,A5,hh) ⟨rfl,rfl,⟨e1,e3,e4,e5,e7,e8,e9,e11,trivial⟩,rfl⟩ rfl (fun y hy=>?_);subst hy;simp only[c44b,Tryz.f44,pathE,Option.bind_some,Option.getD_some,gbS,tyD,tyO,d0,kc,evE,Nat.reduceLT,Nat.reduceEqDiff,reduceCtorEq];exact hQ _ _ _ [] [] rfl rfl rfl rfl rfl rfl (Fr.refl _ _) (by rw[BS];exact ha) (fun k e=>.inl e) Co.nil rfl
 obtain⟨hj0,hF'⟩:=List.nodup_cons.1 hF;have hlF:∀ k∈jb::F',k<hh.length:=ow_lt _ _ _ _ oB;generalize hnt:es.length=nt at *;have hes:nt≤wB es:=by rw[←hnt];exact wB_len es
 refine LoopE.intro (gbS γ b bc ik ic A3 A4) (InvB n0 hh A5 Ns0 es jb vb nt F') (fun y=>nt-y.1) (0,A5,hh) ⟨rfl,rfl,⟨e1,e3,e4,e5,e7,e8,e9,e11,trivial⟩,rfl⟩
  ⟨[],es,[],F',[],[],by simpa using hnt,rfl,A,rfl,fun p h=>h,Fr.refl _ _,by rw[BS];exact ha,fun k e=>.inl e,Co.nil,by simp⟩ (fun y hy=>?_)
 clear A;obtain⟨i,A',h1⟩:=y;obtain⟨dn,l,FD,FR,Xs,ns,hil,hdn,A,hFF,hl,f1,a3,hA',co,hNi⟩:=hy;simp only at hil hdn f1 a3 hA' hNi;have kc1:=f1.at kc hcA;have hfl:=f1.1;cases l with
 |nil=>
  have hi:i=nt:=hil;have d1:decide (i<nt)=false:=decide_eq_false (by omega);obtain⟨cs,hj,hcl⟩:=(A.fr f1 (hFA _ (List.mem_cons_self ..)) (fun k hk=>hFA k (List.mem_cons_of_mem _ (by rw[←hFF];exact List.mem_append_right _ hk)))).length;simp only[c44b,Tryz.f44,pathE,Option.bind_some,Option.getD_some,gbS,tyD,tyO,kc1,hj,d1,evE,Nat.reduceLT,Nat.reduceEqDiff,reduceCtorEq];refine hQ _ _ A' Xs ns ?_ ?_ ?_ ?_ ?_ ?_ f1 a3 hA' (co.mono fun k h=>List.mem_cons_of_mem _ (by rw[←hFF];exact List.mem_append_left _ h)) (by simpa[wB]using hNi)
  all_goals rfl
 |cons x l=>
  have hlt:i<nt:=by rw[BC]at hil;omega
  have d1:decide (i<nt)=true:=decide_eq_true hlt;obtain⟨xs1,xs2,F1,F2,rfl,kp,hx1,o1,o2⟩:=A.cons (by rfl);obtain⟨T,V,FT,FA,rfl,rfl,oT,oA⟩:=ac_inv o1;have hjA:=hFA _ (List.mem_cons_self ..);have kp1:=f1.at kp hjA
  have hT:(dn++intC x.kind::T::strC x.name::strC x.var::V::xs2)[i * 5+1]?=some T:=by
   rw[Br (by omega),hdn,show i * 5+1-i * 5=1 by omega];rfl
  have hV:(dn++([intC x.kind,T,strC x.name,strC x.var,V]++xs2))[i * 5+4]?=some V:=by
   rw[Br (by omega),hdn,show i * 5+4-i * 5=4 by omega];rfl
  have okx:=hv x (hl x (List.mem_cons_self ..));rw[nodesA_sl]at oT;obtain⟨LT,hTF⟩:=ow_LN oT rfl;obtain⟨oT1,fT1⟩:=LT.one;have w1:IntKind.i64.wrap ((i:Int)+1)=((i+1:Nat):Int):=(i64w (by omega) (by omega)).trans (by omega);have hFN:=List.nodup_append.1 (hFF▸hF');have hFN2:=List.nodup_append.1 hFN.2.1;have hTA:=List.nodup_append.1 hFN2.1;have hwl:wB (x::l)=1+x.args.length+wB l:=by simp[wB,wA]
  have hin:∀ k,k∈FT++FA→k∈jb::F':=fun k h=>List.mem_cons_of_mem _ (by rw[←hFF];exact List.mem_append_right _ (List.mem_append_left _ h))
  have use:∀ (h2:List ABlk) (A2:AV),Push 39 n0 A' (Ns0++Xs) h1 T A2 h2→h2[bc]?=some ⟨0,59,[s0,P,G,.own jb vb nt]⟩∧h2[jb]?=some ⟨vb,135,dn++([intC x.kind,T,strC x.name,strC x.var,V]++xs2)⟩∧ow (expsA x.args) h2 (.s 41) V FA∧AR 39 n0 h2 A2 ((Ns0++Xs)++[T])∧n0≤h2.length∧¬nbk A2 bc∧¬nbk A2 jb∧(∀ k∈FA,¬nbk A2 k)∧((Ns0++Xs)++[T]).length+x.args.length≤1000000∧
    ∀ h3 A3' Ys ms,Fr (nbk A2) h2 h3→AR 39 n0 h3 A3' (((Ns0++Xs)++[T])++Ys)→(∀ k,nbk A3' k→nbk A2 k∨h2.length≤k)→Co 115 9 h2 Ys ms FA→Ys.length=x.args.length→InvB n0 hh A5 Ns0 es jb vb nt F' (i+1,A3',h3):=fun h2 A2 hp=>by
   obtain⟨p1,p2,p3⟩:=hp;have f2:Fr (nbk A5) hh h2:=f1.trans p2 hA';have hA2:∀ k,nbk A2 k→nbk A5 k∨hh.length≤k:=fun k e=>(p3 k e).elim (hA' k) fun e=>.inr (BM hfl e)
   have no:∀ k,k<hh.length→¬nbk A5 k→¬nbk A2 k:=fun k h1 h2 e=>(hA2 k e).elim h2 fun e=>by omega
   have f2l:=f2.1;refine⟨f2.at kc hcA,f2.at kp hjA,ow_fr2 oA f2 (fun k hk=>hFA k (hin k (List.mem_append_right _ hk))),p1,by omega,no _ hbl hcA,no _ (hlF _ (List.mem_cons_self ..)) hjA,fun k hk=>no k (hlF k (hin k (List.mem_append_right _ hk))) (hFA k (hin k (List.mem_append_right _ hk))),by simp only[Bp,BC,BD];omega,fun h3 A3' Ys ms f3 a4 hA3 co2 hYl=>?_⟩;have f3':Fr (nbk A5) hh h3:=f2.trans f3 hA2;have co2':Co 115 9 hh Ys ms FA:=co2.back f2 fun k hk=>⟨hlF k (hin k (List.mem_append_right _ hk)),hFA k (hin k (List.mem_append_right _ hk))⟩
   refine⟨dn++[intC x.kind,T,strC x.name,strC x.var,V],l,FD++(FT++FA),F2,Xs++([T]++Ys),ns++([x.to.length]++ms),by rw[BC]at hil;show i+1+l.length=nt;omega,by rw[Bp,hdn];simp only[BC,BD];omega,⟨xs2,by rw[kp];simp,o2⟩,by rw[Bo];exact hFF,fun p h=>hl p (List.mem_cons_of_mem _ h),f3',by have:=a4;simpa only[Bo]using this,fun k e=>(hA3 k e).elim (hA2 k) fun e=>.inr (BM f2l e),?_,by simp only[Bp,BC,BD];omega⟩;refine co.append ((Co.one LT okx.1.1 hTF).append co2' (fun k h1 h2=>hTA.2.2 k h1 k h2 rfl) (fun k h=>List.mem_append_left _ h) fun k h=>List.mem_append_right _ h) (fun k h1 h2=>hFN.2.2 k h1 k (List.mem_append_left _ h2) rfl) (fun k h=>List.mem_append_left _ h) fun k h=>List.mem_append_right _ h
  have hNX:(Ns0++Xs).length+1≤1000000:=by rw[Bp];omega
  clear kc A o1 o2 hQ co oB
  rcases a3 with⟨rfl,e0⟩|⟨j,ver,rfl,hNl,hj0',hj⟩
  ·simp only[c44b,Tryz.f44,pathE,Option.bind_some,Option.getD_some,gbS,tyD,tyO,kc1,kp1,d1,hT,oT1,fT1,at_len,setMany,Bx,Bo,Bc,Bi,evE,tyX,Nat.reduceLT,Nat.reduceLeDiff,Nat.reduceEqDiff,reduceCtorEq,List.reduceReplicate];refine⟨hlt,?_⟩;obtain⟨u1,u2,u3,u4,u5,u6,u7,u8,u9,u10⟩:=use (h1++[⟨0,39,[T]⟩,⟨0,39,[T]⟩]) (.own (h1.length+1) 0 1) ⟨.inr ⟨h1.length+1,0,by rw[e0];rfl,by rw[e0];exact Nat.succ_pos _,by omega,by rw[e0];exact at_len1 _ _ _ _⟩,Fr.app _ _,fun k e=>.inr (by have e:k=h1.length+1:=e;omega)⟩;refine LoopE.cast (fun Q s h=>?_) (ap_args (γ:=γ) (E:=E) (b:=b) (bc:=bc) (ik:=ik) (ic:=ic) (ib:=i) (A3:=A3) (A4:=A4) ?_ ?_ ?_ ?_ ?_ ?_ ?_ ?_ ?_ u1 u2 hlt hV u3 hTA.2.1 u4 u5 u6 u7 u8 u9 (fun p hp=>(okx.2.2 p hp).1) (fun l1 h3 A5' Ys ms q1 q3 q4 q5 q7 q8 q9 q11 g1 g2 g3 g4 g5=>?_))
   ·simp only[c44x,Tryz.f44,pathE,Option.bind_some,Option.getD_some,evE]at h;exact h
   rotate_right
   ·simp only[q11,w1,evE,Nat.reduceLT,Nat.reduceEqDiff,reduceCtorEq];exact loopCE.intro (i+1,A5',h3) (u10 h3 A5' Ys ms g1 g2 g3 g4 g5) ⟨rfl,rfl,⟨q1,q3,q4,q5,q7,q8,q9,rfl,trivial⟩,rfl⟩ (by show nt-(i+1)<nt-i;clear w1;omega)
   all_goals rfl
  ·have hjl:=(Bs.1 hj).1;generalize hNN:(Ns0++Xs).length=nn at *;have gj:∀ l,(h1++l)[j]?=some ⟨ver,39,Ns0++Xs⟩:=fun l=>(Ba hjl).trans hj
   have sj:∀ l c,(h1++l).set j c=h1.set j c++l:=fun l c=>Bg _ _ hjl
   have q4:List.take nn (Ns0++Xs)=Ns0++Xs:=Bt (by omega);have q6:nn≤Ns0.length+Xs.length:=by rw[Bp]at hNN;omega
   have q7:nn≤(Ns0++Xs).length:=by omega
   simp only[c44b,Tryz.f44,pathE,Option.bind_some,Option.getD_some,gbS,tyD,tyO,kc1,kp1,d1,hT,oT1,fT1,gj,sj,q4,q6,at_len,setMany,Bx,Bc,Bi,evE,tyX,Nat.reduceLT,Nat.reduceLeDiff,Nat.reduceEqDiff,reduceCtorEq,List.reduceReplicate];refine⟨hlt,by clear w1;omega,?_⟩;obtain⟨u1,u2,u3,u4,u5,u6,u7,u8,u9,u10⟩:=use (h1.set j ⟨ver+1,39,Ns0++Xs++[T]⟩++[⟨0,39,[T]⟩]) (.own j (ver+1) (nn+1)) ⟨.inr ⟨j,ver+1,by rw[Bp,hNN];rfl,by rw[Bp];exact Nat.succ_pos _,hj0',(Ba (by rw[Bl];exact hjl)).trans (Be hjl)⟩,(Fr.set (S:=nbk (.own j ver nn)) _ rfl).trans (Fr.app (S:=NoB) _ _) fun k e=>e.elim,fun k e=>.inl e⟩;refine LoopE.cast (fun Q s h=>?_) (ap_args (γ:=γ) (E:=E) (b:=b) (bc:=bc) (ik:=ik) (ic:=ic) (ib:=i) (A3:=A3) (A4:=A4) ?_ ?_ ?_ ?_ ?_ ?_ ?_ ?_ ?_ u1 u2 hlt hV u3 hTA.2.1 u4 u5 u6 u7 u8 u9 (fun p hp=>(okx.2.2 p hp).1) (fun l1 h3 A5' Ys ms q1 q3 q4 q5 q7 q8 q9 q11 g1 g2 g3 g4 g5=>?_))
   ·simp only[c44x,Tryz.f44,pathE,Option.bind_some,Option.getD_some,evE]at h;exact h
   rotate_right
   ·simp only[q11,w1,evE,Nat.reduceLT,Nat.reduceEqDiff,reduceCtorEq];exact loopCE.intro (i+1,A5',h3) (u10 h3 A5' Ys ms g1 g2 g3 g4 g5) ⟨rfl,rfl,⟨q1,q3,q4,q5,q7,q8,q9,rfl,trivial⟩,rfl⟩ (by show nt-(i+1)<nt-i;clear w1;omega)
   all_goals rfl
theorem AR.ne{te te':TypeId}{n0:Nat}{h:List ABlk}{A A':AV}{Ns Ns':List AV}(a:AR te n0 h A Ns)(b:AR te' n0 h A' Ns')(ht:te≠te'):∀ k,nbk A k→¬nbk A' k:=by
 intro k hk hk'
 rcases a with⟨rfl,_⟩|⟨j,ver,rfl,hn,hj0,hj⟩
 ·exact hk
 rcases b with⟨rfl,_⟩|⟨j',ver',rfl,hn',hj0',hj'⟩
 ·exact hk'
 have e:k=j:=hk;have e':k=j':=hk';subst e;subst e';rw[hj]at hj';cases hj';exact ht rfl
def W2(A4 A5:AV)(k:Nat):Prop:=nbk A4 k∨nbk A5 k
def gcS(γ:List (Nat×AV))(b ik:Nat)(A3:AV)(y:Nat×AV×AV×List ABlk):St:=⟨⟨362,[(1,.ptr b 0 0),(3,A3),(4,y.2.1),(5,y.2.2.1),(7,.v (.int .i64 (ik:Int))),(8,.v (.int .i64 (y.1:Int)))],γ⟩,y.2.2.2⟩
def sC(l:List Ch):Nat:=(l.map wC).sum
def InvC(n0:Nat)(hh:List ABlk)(A4 A5:AV)(NV NE:List AV)(es:List Ch)(jc vc nt:Nat)(F':List Nat)(y:Nat×AV×AV×List ABlk):Prop:=
 ∃ (dn:List AV) (l:List Ch) (FD FR:List Nat) (XV:List AV) (nV:List Nat) (XE:List AV) (nE:List Nat),y.1+l.length=nt∧dn.length=y.1 * 4∧Arr 59 Ch.cells hh jc vc dn l FR∧FD++FR=F'∧(∀ p∈l,p∈es)∧Fr (W2 A4 A5) hh y.2.2.2∧
  AR 128 n0 y.2.2.2 y.2.1 (NV++XV)∧AR 39 n0 y.2.2.2 y.2.2.1 (NE++XE)∧(∀ k,nbk y.2.1 k→nbk A4 k∨hh.length≤k)∧(∀ k,nbk y.2.2.1 k→nbk A5 k∨hh.length≤k)∧Co 9 1 hh XV nV FD∧Co 115 9 hh XE nE FD∧XV.length+XE.length+sC l=sC es
theorem sC_len:∀ l:List Ch,l.length≤sC l
 |[]=>BN _
 |x::l=>by have:=sC_len l;simp only[sC,wC,BC,BA,List.sum_cons]at *;omega
theorem ap_chords{E:AV→St→Prop}{Q:Post}{l0:List (Nat×AV)}{hh:List ABlk}{b ik n0 jk vk nk:Nat}{A3 A4 A5 T C:AV}{NV NE ck:List AV}{es:List Ch}{FC:List Nat}
  (e1:Go.Ev.look l0 1=.ptr b 0 0) (e3:Go.Ev.look l0 3=A3) (e4:Go.Ev.look l0 4=A4) (e5:Go.Ev.look l0 5=A5) (e7:Go.Ev.look l0 7=.v (.int .i64 (ik:Int))) (e8:Go.Ev.look l0 8=.v (.int .i64 0))
  (kb:hh[b]?=some ⟨0,71,[T,.own jk vk nk]⟩) (kk:hh[jk]?=some ⟨vk,90,ck⟩) (hik:ik<nk) (hC:ck[ik * 2+1]?=some C) (oC:ow (chordsA es) hh (.s 59) C FC) (hF:FC.Nodup) (ha4:AR 128 n0 hh A4 NV) (ha5:AR 39 n0 hh A5 NE) (hn0:n0≤hh.length) (hb:b<n0) (hjk:jk<n0) (hFn:∀ k∈FC,k<n0)
  (hc4:NV.length+sC es≤1000000) (hc5:NE.length+sC es≤1000000) (hv:∀ c∈es,okCh c)
  (hQ:∀ l1 h1 A4' A5' XV nV XE nE,Go.Ev.look l1 1=.ptr b 0 0→Go.Ev.look l1 3=A3→Go.Ev.look l1 4=A4'→Go.Ev.look l1 5=A5'→Go.Ev.look l1 7=.v (.int .i64 (ik:Int))→Fr (W2 A4 A5) hh h1→AR 128 n0 h1 A4' (NV++XV)→AR 39 n0 h1 A5' (NE++XE)→(∀ k,nbk A4' k→nbk A4 k∨hh.length≤k)→(∀ k,nbk A5' k→nbk A5 k∨hh.length≤k)→Co 9 1 hh XV nV FC→Co 115 9 hh XE nE FC→XV.length+XE.length=sC es→Q (.exit 4) ⟨⟨362,l1,γ⟩,h1⟩):LoopE (fun Q s=>kwpE Tp E c44c Q s) Q ⟨⟨362,l0,γ⟩,hh⟩:=by
 have d0:decide (((0:Nat):Int)<0)=false:=rfl;have old:∀ k,k<n0→¬W2 A4 A5 k:=fun k hk e=>e.elim (fun e=>by have:=(ha4.lt e).1;omega) fun e=>by have:=(ha5.lt e).1;omega
 rcases ow_list oC with⟨rfl,rfl,rfl⟩|⟨jc,vc,F',rfl,hl0,rfl,A⟩
 ·refine LoopE.intro (gcS γ b ik A3) (fun y=>y=(0,A4,A5,hh)) (fun y=>0) (0,A4,A5,hh) ⟨rfl,rfl,⟨e1,e3,e4,e5,e7,e8,trivial⟩,rfl⟩ rfl (fun y hy=>?_);subst hy;simp only[c44c,Tryz.f44,pathE,Option.bind_some,Option.getD_some,gcS,tyD,tyO,d0,kb,kk,hC,evE,Nat.reduceLT,Nat.reduceEqDiff,reduceCtorEq];exact⟨hik,hQ _ _ _ _ [] [] [] [] rfl rfl rfl rfl rfl (Fr.refl _ _) (by rw[BS];exact ha4) (by rw[BS];exact ha5) (fun k e=>.inl e) (fun k e=>.inl e) Co.nil Co.nil rfl⟩
 obtain⟨hj0,hF'⟩:=List.nodup_cons.1 hF;have hlF:∀ k∈jc::F',k<hh.length:=ow_lt _ _ _ _ oC;generalize hnt:es.length=nt at *;have hes:nt≤sC es:=by rw[←hnt];exact sC_len es
 refine LoopE.intro (gcS γ b ik A3) (InvC n0 hh A4 A5 NV NE es jc vc nt F') (fun y=>nt-y.1) (0,A4,A5,hh) ⟨rfl,rfl,⟨e1,e3,e4,e5,e7,e8,trivial⟩,rfl⟩
  ⟨[],es,[],F',[],[],[],[],by simpa using hnt,rfl,A,rfl,fun p h=>h,Fr.refl _ _,by rw[BS];exact ha4,by rw[BS];exact ha5,fun k e=>.inl e,fun k e=>.inl e,Co.nil,Co.nil,by simp⟩ (fun y hy=>?_)
 clear A;obtain⟨i,A4',A5',h1⟩:=y;obtain⟨dn,l,FD,FR,XV,nV,XE,nE,hil,hdn,A,hFF,hl,f1,a4,a5,hA4,hA5,coV,coE,hNi⟩:=hy;simp only at hil hdn f1 a4 a5 hA4 hA5 hNi;have kb1:=f1.at kb (old _ hb);have kk1:=f1.at kk (old _ hjk);have hfl:=f1.1;have hjc:=hFn _ (List.mem_cons_self ..);cases l with
 |nil=>
  have hi:i=nt:=hil;have d1:decide (i<nt)=false:=decide_eq_false (by omega);obtain⟨cs,hj,hcl⟩:=(A.fr f1 (old _ hjc) (fun k hk=>old _ (hFn k (List.mem_cons_of_mem _ (by rw[←hFF];exact List.mem_append_right _ hk))))).length;simp only[c44c,Tryz.f44,pathE,Option.bind_some,Option.getD_some,gcS,tyD,tyO,kb1,kk1,hC,hj,d1,evE,Nat.reduceLT,Nat.reduceEqDiff,reduceCtorEq];refine⟨hik,hQ _ _ A4' A5' XV nV XE nE ?_ ?_ ?_ ?_ ?_ f1 a4 a5 hA4 hA5 (coV.mono fun k h=>List.mem_cons_of_mem _ (by rw[←hFF];exact List.mem_append_left _ h)) (coE.mono fun k h=>List.mem_cons_of_mem _ (by rw[←hFF];exact List.mem_append_left _ h)) (by simpa[sC]using hNi)⟩
  all_goals rfl
 |cons x l=>
  have hlt:i<nt:=by rw[BC]at hil;omega
  have d1:decide (i<nt)=true:=decide_eq_true hlt;obtain⟨xs1,xs2,F1,F2,rfl,kp,hx1,o1,o2⟩:=A.cons (by rfl);obtain⟨P,G,B,FP,FG,FB,rfl,rfl,oP,oG,oB⟩:=ch_inv o1;have kp1:=f1.at kp (old _ hjc);have t2:List.drop (i * 4) (dn++strC x.name::P::G::B::xs2)=strC x.name::P::G::B::xs2:=drop1 hdn;have t1:List.take 4 (strC x.name::P::G::B::xs2)=[strC x.name,P,G,B]:=rfl;obtain⟨ok1,ok2,ok3,ok4,ok5⟩:=hv x (hl x (List.mem_cons_self ..));obtain⟨oP1,fP1⟩:=(ow_LN (enc:=Pt.cells) oP rfl).1.one;obtain⟨oB1,fB1⟩:=(ow_LN (enc:=Ac.cells) oB rfl).1.one;have oG2:=oG;rw[nodesA_sl]at oG2;obtain⟨LG,hGF⟩:=ow_LN oG2 rfl;obtain⟨oG1,fG1⟩:=LG.one;have w1:IntKind.i64.wrap ((i:Int)+1)=((i+1:Nat):Int):=(i64w (by omega) (by omega)).trans (by omega);have hFN:=List.nodup_append.1 (hFF▸hF');have hFN2:=List.nodup_append.1 hFN.2.1;have hP2:=List.nodup_append.1 hFN2.1;have hG2:=List.nodup_append.1 hP2.2.1;have hwl:sC (x::l)=x.parts.length+(1+wB x.body)+sC l:=by simp[sC,wC]
  have hin:∀ k,k∈FP++(FG++FB)→k∈jc::F':=fun k h=>List.mem_cons_of_mem _ (by rw[←hFF];exact List.mem_append_right _ (List.mem_append_left _ h))
  have hinP:=fun k h=>hin k (List.mem_append_left _ h)
  have hinG:=fun k h=>hin k (List.mem_append_right _ (List.mem_append_left _ h))
  have hinB:=fun k h=>hin k (List.mem_append_right _ (List.mem_append_right _ h))
  have use:∀ (h2:List ABlk) (A5a:AV),Push 39 n0 A5' (NE++XE) (h1++[⟨0,59,[strC x.name,P,G,B]⟩]) G A5a h2→
    (h2[h1.length]?=some ⟨0,59,[strC x.name,P,G,B]⟩∧ow (partsA x.parts) h2 (.s 130) P FP∧AR 128 n0 h2 A4' (NV++XV)∧n0≤h2.length∧¬nbk A4' h1.length∧(∀ k∈FP,¬nbk A4' k)∧(NV++XV).length+x.parts.length≤1000000)∧
    ∀ h3 A4a Xs ns,Fr (nbk A4') h2 h3→AR 128 n0 h3 A4a ((NV++XV)++Xs)→(∀ k,nbk A4a k→nbk A4' k∨h2.length≤k)→Co 9 1 h2 Xs ns FP→Xs.length=x.parts.length→
    (h3[h1.length]?=some ⟨0,59,[strC x.name,P,G,B]⟩∧ow (actsA x.body) h3 (.s 135) B FB∧AR 39 n0 h3 A5a ((NE++XE)++[G])∧n0≤h3.length∧¬nbk A5a h1.length∧(∀ k∈FB,¬nbk A5a k)∧((NE++XE)++[G]).length+wB x.body≤1000000)∧
    ∀ h4 A5b Ys ms,Fr (nbk A5a) h3 h4→AR 39 n0 h4 A5b (((NE++XE)++[G])++Ys)→(∀ k,nbk A5b k→nbk A5a k∨h3.length≤k)→Co 115 9 h3 Ys ms FB→Ys.length=wB x.body→InvC n0 hh A4 A5 NV NE es jc vc nt F' (i+1,A4a,A5b,h4):=fun h2 A5a hp=>by
   obtain⟨p1,p2,p3⟩:=hp;rw[Bp]at p3;simp only[BC,BD]at p3;have fc:Fr (W2 A4 A5) hh (h1++[⟨0,59,[strC x.name,P,G,B]⟩]):=f1.trans (Fr.app (S:=NoB) _ _) fun k e=>e.elim
   have f2:Fr (W2 A4 A5) hh h2:=fc.trans p2 fun k e=>(hA5 k e).imp .inr id
   have p2l:=p2.1;rw[Bp]at p2l;simp only[BC,BD]at p2l;have a4c:AR 128 n0 (h1++[⟨0,59,[strC x.name,P,G,B]⟩]) A4' (NV++XV):=a4.fr (S:=NoB) (Fr.app _ _) fun k _ e=>e
   have a5c:AR 39 n0 (h1++[⟨0,59,[strC x.name,P,G,B]⟩]) A5' (NE++XE):=a5.fr (S:=NoB) (Fr.app _ _) fun k _ e=>e
   have a42:AR 128 n0 h2 A4' (NV++XV):=a4c.fr p2 fun k hk=>a4c.ne a5c (by decide) k hk
   have n4:∀ k,k<n0→¬nbk A4' k:=fun k hk e=>by have:=(a4.lt e).1;omega
   have n5:∀ k,k<n0→¬nbk A5' k:=fun k hk e=>by have:=(a5.lt e).1;omega
   have n5a:∀ k,k<n0→¬nbk A5a k:=fun k hk e=>by have:=(p1.lt e).1;omega
   have nc4:¬nbk A4' h1.length:=fun e=>by have:=(a4.lt e).2;omega
   have nc5:¬nbk A5' h1.length:=fun e=>by have:=(a5.lt e).2;omega
   have nc5a:¬nbk A5a h1.length:=fun e=>(p3 _ e).elim nc5 fun e=>by omega
   have kc2:h2[h1.length]?=some ⟨0,59,[strC x.name,P,G,B]⟩:=p2.at (at_len h1 _ []) nc5;refine⟨⟨kc2,ow_fr2 oP f2 (fun k hk=>old k (hFn k (hinP k hk))),a42,by omega,nc4,fun k hk=>n4 k (hFn k (hinP k hk)),by rw[Bp];omega⟩,fun h3 A4a Xs ns f3 b1 b2 co3 hXl=>?_⟩;have f3':Fr (W2 A4 A5) hh h3:=f2.trans f3 fun k e=>(hA4 k e).imp .inl id
   have f3l:=f3.1;have a53:AR 39 n0 h3 A5a ((NE++XE)++[G]):=p1.fr f3 fun k hk e=>a42.ne p1 (by decide) k e hk
   have hA4a:∀ k,nbk A4a k→nbk A4 k∨hh.length≤k:=fun k e=>(b2 k e).elim (hA4 k) fun e=>.inr (by have:=f2.1;omega)
   have hA5a:∀ k,nbk A5a k→nbk A5 k∨hh.length≤k:=fun k e=>(p3 k e).elim (hA5 k) fun e=>.inr (by omega)
   refine⟨⟨f3.at kc2 nc4,ow_fr2 oB f3' (fun k hk=>old k (hFn k (hinB k hk))),a53,by omega,nc5a,fun k hk=>n5a k (hFn k (hinB k hk)),by simp only[Bp,BC,BD];omega⟩,fun h4 A5b Ys ms f4 c1 c2 co4 hYl=>?_⟩;have f4':Fr (W2 A4 A5) hh h4:=f3'.trans f4 fun k e=>(hA5a k e).imp .inr id
   have coX:Co 9 1 hh Xs ns FP:=co3.back f2 fun k hk=>⟨hlF k (hinP k hk),old k (hFn k (hinP k hk))⟩
   have coY:Co 115 9 hh Ys ms FB:=co4.back f3' fun k hk=>⟨hlF k (hinB k hk),old k (hFn k (hinB k hk))⟩
   refine⟨dn++[strC x.name,P,G,B],l,FD++(FP++(FG++FB)),F2,XV++Xs,nV++ns,XE++([G]++Ys),nE++([x.guard.length]++ms),by rw[BC]at hil;show i+1+l.length=nt;omega,by rw[Bp,hdn];simp only[BC,BD];omega,⟨xs2,by rw[kp];simp,o2⟩,by rw[Bo];exact hFF,fun p h=>hl p (List.mem_cons_of_mem _ h),f4',?_,by have:=c1;simpa only[Bo]using this,hA4a,fun k e=>(c2 k e).elim (hA5a k) fun e=>.inr (by have:=f2.1;omega),?_,?_,by simp only[Bp,BC,BD];omega⟩
   ·have:=b1.fr f4 fun k hk=>b1.ne a53 (by decide) k hk
    rwa [Bo]at this
   ·exact coV.append coX (fun k h1 h2=>hFN.2.2 k h1 k (List.mem_append_left _ (List.mem_append_left _ h2)) rfl) (fun k h=>List.mem_append_left _ h) fun k h=>List.mem_append_right _ (List.mem_append_left _ h)
   ·refine coE.append (F2:=FG++FB) ((Co.one LG ok3.1 hGF).append coY (fun k h1 h2=>hG2.2.2 k h1 k h2 rfl) (fun k h=>List.mem_append_left _ h) fun k h=>List.mem_append_right _ h) (fun k h1 h2=>hFN.2.2 k h1 k (List.mem_append_left _ (List.mem_append_right _ h2)) rfl) (fun k h=>List.mem_append_left _ h) fun k h=>List.mem_append_right _ (List.mem_append_right _ h)
  have hoa:∀ s,oneA (strC s)=true:=fun s=>rfl
  have hfa:∀ s,flat (strC s)=some [strC s]:=fun s=>rfl
  have hNX:(NE++XE).length+1≤1000000:=by rw[Bp];omega
  clear kb kk A o1 o2 hQ coV coE oC oP oG oB oG2
  rcases a5 with⟨rfl,e0⟩|⟨j,ver,rfl,hNl,hj0',hj⟩
  ·simp only[c44c,Tryz.f44,pathE,Option.bind_some,Option.getD_some,gcS,tyD,tyO,kb1,kk1,hC,kp1,d1,t1,t2,oP1,oB1,oG1,fG1,hoa,at_len,at_len1,set_len,setMany,Bx,Bw,Bo,Bc,Bi,evE,tyX,Nat.reduceAdd,Nat.reduceLT,Nat.reduceLeDiff,Nat.reduceEqDiff,reduceCtorEq,List.reduceReplicate];refine⟨hik,hik,hlt,?_⟩
   obtain⟨⟨u1,u2,u3,u4,u5,u6,u7⟩,cont⟩:=use (h1++[⟨0,59,[strC x.name,P,G,B]⟩,⟨0,39,[G]⟩,⟨0,39,[G]⟩]) (.own (h1.length+2) 0 1) ⟨.inr ⟨h1.length+2,0,by rw[e0];rfl,by rw[e0];exact Nat.succ_pos _,by omega,by rw[e0];simp⟩,by
    have:=Fr.app (S:=nbk (.v (.slice none 0 0))) (h1++[⟨0,59,[strC x.name,P,G,B]⟩]) [⟨0,39,[G]⟩,⟨0,39,[G]⟩]
    rwa [Bo]at this,fun k e=>.inr (by have e:k=h1.length+2:=e;rw[Bp];simp only[BC,BD];omega)⟩
   refine LoopE.cast (fun Q s h=>?_) (ap_parts (γ:=γ) (E:=E) (b:=b) (bc:=h1.length) (ik:=ik) (ic:=i) (A3:=A3) (A5:=.own (h1.length+2) 0 1) ?_ ?_ ?_ ?_ ?_ ?_ ?_ ?_ u1 u2 hP2.1 u3 u4 u5 u6 u7 ok2 (fun l1 h3 A4a Xs ns q1 q3 q4 q5 q7 q8 q9 g1 g2 g3 g4 g5=>?_))
   ·simp only[c44p,Tryz.f44,pathE,Option.bind_some,Option.getD_some,evE]at h;exact h
   rotate_right
   ·obtain⟨⟨v1,v2,v3,v4,v5,v6,v7⟩,cont2⟩:=cont h3 A4a Xs ns g1 g2 g3 g4 g5;simp only[q8,evE,Nat.reduceLT,Nat.reduceEqDiff,reduceCtorEq];refine LoopE.cast (fun Q s h=>?_) (ap_body (γ:=γ) (E:=E) (b:=b) (bc:=h1.length) (ik:=ik) (ic:=i) (A3:=A3) (A4:=A4a) ?_ ?_ ?_ ?_ ?_ ?_ ?_ ?_ v1 v2 hG2.2.1 v3 v4 v5 v6 v7 ok5 (fun l2 h4 A5b Ys ms r1 r3 r4 r5 r7 r8 k1 k2 k3 k4 k5=>?_))
    ·simp only[c44b,Tryz.f44,pathE,Option.bind_some,Option.getD_some,evE]at h;exact h
    rotate_right
    ·simp only[r8,w1,evE,Nat.reduceLT,Nat.reduceEqDiff,reduceCtorEq];exact loopCE.intro (i+1,A4a,A5b,h4) (cont2 h4 A5b Ys ms k1 k2 k3 k4 k5) ⟨rfl,rfl,⟨r1,r3,r4,r5,r7,rfl,trivial⟩,rfl⟩ (by show nt-(i+1)<nt-i;clear w1;omega)
    all_goals first|rfl|assumption
   all_goals rfl
  ·have hjl:=(Bs.1 hj).1;generalize hNN:(NE++XE).length=nn at *;have gj:∀ l,(h1++l)[j]?=some ⟨ver,39,NE++XE⟩:=fun l=>(Ba hjl).trans hj
   have sj:∀ l c,(h1++l).set j c=h1.set j c++l:=fun l c=>Bg _ _ hjl
   have q4:List.take nn (NE++XE)=NE++XE:=Bt (by omega);have q6:nn≤NE.length+XE.length:=by rw[Bp]at hNN;omega
   have q7:nn≤(NE++XE).length:=by omega
   simp only[c44c,Tryz.f44,pathE,Option.bind_some,Option.getD_some,gcS,tyD,tyO,kb1,kk1,hC,kp1,d1,t1,t2,oP1,oB1,oG1,fG1,hoa,gj,sj,q4,q6,at_len,at_len1,set_len,setMany,Bx,Bw,Bo,Bc,Bi,evE,tyX,Nat.reduceAdd,Nat.reduceLT,Nat.reduceLeDiff,Nat.reduceEqDiff,reduceCtorEq,List.reduceReplicate];refine⟨hik,hik,hlt,by clear w1;omega,?_⟩
   obtain⟨⟨u1,u2,u3,u4,u5,u6,u7⟩,cont⟩:=use (h1.set j ⟨ver+1,39,NE++(XE++[G])⟩++[⟨0,59,[strC x.name,P,G,B]⟩,⟨0,39,[G]⟩]) (.own j (ver+1) (nn+1)) ⟨.inr ⟨j,ver+1,by rw[Bp,hNN];rfl,by rw[Bp];exact Nat.succ_pos _,hj0',by rw[Bo];exact (Ba (by rw[Bl];exact hjl)).trans (Be hjl)⟩,by
    have:=(Fr.set (S:=nbk (.own j ver nn)) (h:=h1++[⟨0,59,[strC x.name,P,G,B]⟩]) ⟨ver+1,39,NE++(XE++[G])⟩ rfl).trans (Fr.app (S:=NoB) _ [⟨0,39,[G]⟩]) fun k e=>e.elim
    rwa [sj,Bo]at this,fun k e=>.inl e⟩
   refine LoopE.cast (fun Q s h=>?_) (ap_parts (γ:=γ) (E:=E) (b:=b) (bc:=h1.length) (ik:=ik) (ic:=i) (A3:=A3) (A5:=.own j (ver+1) (nn+1)) ?_ ?_ ?_ ?_ ?_ ?_ ?_ ?_ u1 u2 hP2.1 u3 u4 u5 u6 u7 ok2 (fun l1 h3 A4a Xs ns q1 q3 q4 q5 q7 q8 q9 g1 g2 g3 g4 g5=>?_))
   ·simp only[c44p,Tryz.f44,pathE,Option.bind_some,Option.getD_some,evE]at h;exact h
   rotate_right
   ·obtain⟨⟨v1,v2,v3,v4,v5,v6,v7⟩,cont2⟩:=cont h3 A4a Xs ns g1 g2 g3 g4 g5;simp only[q8,evE,Nat.reduceLT,Nat.reduceEqDiff,reduceCtorEq];refine LoopE.cast (fun Q s h=>?_) (ap_body (γ:=γ) (E:=E) (b:=b) (bc:=h1.length) (ik:=ik) (ic:=i) (A3:=A3) (A4:=A4a) ?_ ?_ ?_ ?_ ?_ ?_ ?_ ?_ v1 v2 hG2.2.1 v3 v4 v5 v6 v7 ok5 (fun l2 h4 A5b Ys ms r1 r3 r4 r5 r7 r8 k1 k2 k3 k4 k5=>?_))
    ·simp only[c44b,Tryz.f44,pathE,Option.bind_some,Option.getD_some,evE]at h;exact h
    rotate_right
    ·simp only[r8,w1,evE,Nat.reduceLT,Nat.reduceEqDiff,reduceCtorEq];exact loopCE.intro (i+1,A4a,A5b,h4) (cont2 h4 A5b Ys ms k1 k2 k3 k4 k5) ⟨rfl,rfl,⟨r1,r3,r4,r5,r7,rfl,trivial⟩,rfl⟩ (by show nt-(i+1)<nt-i;clear w1;omega)
    all_goals first|rfl|assumption
   all_goals rfl
def gkS(γ:List (Nat×AV))(b:Nat)(A3:AV)(y:Nat×AV×AV×List ABlk):St:=⟨⟨362,[(1,.ptr b 0 0),(3,A3),(4,y.2.1),(5,y.2.2.1),(7,.v (.int .i64 (y.1:Int)))],γ⟩,y.2.2.2⟩
def InvK(n0:Nat)(hh:List ABlk)(A4 A5:AV)(es:List Kd)(jk vk nt:Nat)(F':List Nat)(y:Nat×AV×AV×List ABlk):Prop:=
 ∃ (dn:List AV) (l:List Kd) (FD FR:List Nat) (XV:List AV) (nV:List Nat) (XE:List AV) (nE:List Nat),y.1+l.length=nt∧dn.length=y.1 * 2∧Arr 90 Kd.cells hh jk vk dn l FR∧FD++FR=F'∧(∀ p∈l,p∈es)∧Fr (W2 A4 A5) hh y.2.2.2∧
  AR 128 n0 y.2.2.2 y.2.1 XV∧AR 39 n0 y.2.2.2 y.2.2.1 XE∧(∀ k,nbk y.2.1 k→nbk A4 k∨hh.length≤k)∧(∀ k,nbk y.2.2.1 k→nbk A5 k∨hh.length≤k)∧Co 9 1 hh XV nV FD∧Co 115 9 hh XE nE FD∧XV.length+XE.length+wG l=wG es
theorem ap_kinds{E:AV→St→Prop}{Q:Post}{l0:List (Nat×AV)}{hh:List ABlk}{b n0:Nat}{A3 T K:AV}{es:List Kd}{FK:List Nat}
  (e1:Go.Ev.look l0 1=.ptr b 0 0) (e3:Go.Ev.look l0 3=A3) (e4:Go.Ev.look l0 4=.v (.slice none 0 0)) (e5:Go.Ev.look l0 5=.v (.slice none 0 0)) (e7:Go.Ev.look l0 7=.v (.int .i64 0))
  (kb:hh[b]?=some ⟨0,71,[T,K]⟩) (oK:ow (kindsA es) hh (.s 90) K FK) (hF:FK.Nodup) (hn0:n0≤hh.length) (hb:b<n0) (hFn:∀ k∈FK,k<n0)
  (hcn:wG es≤1000000) (hn:es.length≤2000000) (hv:∀ k∈es,okKd k)
  (hQ:∀ l1 h1 A4' A5' XV nV XE nE,Go.Ev.look l1 1=.ptr b 0 0→Go.Ev.look l1 3=A3→Go.Ev.look l1 4=A4'→Go.Ev.look l1 5=A5'→Fr NoB hh h1→AR 128 n0 h1 A4' XV→AR 39 n0 h1 A5' XE→(∀ k,nbk A4' k→hh.length≤k)→(∀ k,nbk A5' k→hh.length≤k)→Co 9 1 hh XV nV FK→Co 115 9 hh XE nE FK→XV.length+XE.length=wG es→Q (.exit 2) ⟨⟨362,l1,γ⟩,h1⟩):LoopE (fun Q s=>kwpE Tp E c44k Q s) Q ⟨⟨362,l0,γ⟩,hh⟩:=by
 have d0:decide (((0:Nat):Int)<0)=false:=rfl;obtain⟨A4,hA40⟩:∃ A4,A4=(.v (.slice none 0 0):AV):=⟨_,rfl⟩;obtain⟨A5,hA50⟩:∃ A5,A5=(.v (.slice none 0 0):AV):=⟨_,rfl⟩;have old:∀ k,¬W2 A4 A5 k:=fun k e=>by subst hA40 hA50;exact e.elim (fun e=>e) fun e=>e
 rcases ow_list oK with⟨rfl,rfl,rfl⟩|⟨jk,vk,F',rfl,hl0,rfl,A⟩
 ·refine LoopE.intro (gkS γ b A3) (fun y=>y=(0,.v (.slice none 0 0),.v (.slice none 0 0),hh)) (fun y=>0) (0,.v (.slice none 0 0),.v (.slice none 0 0),hh) ⟨rfl,rfl,⟨e1,e3,e4,e5,e7,trivial⟩,rfl⟩ rfl (fun y hy=>?_);subst hy;simp only[c44k,Tryz.f44,pathE,Option.bind_some,Option.getD_some,gkS,tyD,tyO,d0,kb,evE,Nat.reduceLT,Nat.reduceEqDiff,reduceCtorEq];exact hQ _ _ _ _ [] [] [] [] rfl rfl rfl rfl (Fr.refl _ _) (.inl ⟨rfl,rfl⟩) (.inl ⟨rfl,rfl⟩) (fun k e=>e.elim) (fun k e=>e.elim) Co.nil Co.nil rfl
 obtain⟨hj0,hF'⟩:=List.nodup_cons.1 hF;have hlF:∀ k∈jk::F',k<hh.length:=ow_lt _ _ _ _ oK;generalize hnt:es.length=nt at *
 refine LoopE.intro (gkS γ b A3) (InvK n0 hh A4 A5 es jk vk nt F') (fun y=>nt-y.1) (0,A4,A5,hh) ⟨rfl,rfl,⟨e1,e3,by rw[hA40];exact e4,by rw[hA50];exact e5,e7,trivial⟩,rfl⟩
  ⟨[],es,[],F',[],[],[],[],by simpa using hnt,rfl,A,rfl,fun p h=>h,Fr.refl _ _,.inl ⟨hA40,rfl⟩,.inl ⟨hA50,rfl⟩,fun k e=>.inl e,fun k e=>.inl e,Co.nil,Co.nil,by simp⟩ (fun y hy=>?_)
 clear A;obtain⟨i,A4',A5',h1⟩:=y;obtain⟨dn,l,FD,FR,XV,nV,XE,nE,hil,hdn,A,hFF,hl,f1,a4,a5,hA4,hA5,coV,coE,hNi⟩:=hy;simp only at hil hdn f1 a4 a5 hA4 hA5 hNi;have kb1:=f1.at kb (old _);have hfl:=f1.1;have hjk:=hFn _ (List.mem_cons_self ..);cases l with
 |nil=>
  have hi:i=nt:=hil;have d1:decide (i<nt)=false:=decide_eq_false (by omega);obtain⟨cs,hj,hcl⟩:=(A.fr f1 (old _) (fun k hk=>old _)).length;simp only[c44k,Tryz.f44,pathE,Option.bind_some,Option.getD_some,gkS,tyD,tyO,kb1,hj,d1,evE,Nat.reduceLT,Nat.reduceEqDiff,reduceCtorEq];refine hQ _ _ A4' A5' XV nV XE nE ?_ ?_ ?_ ?_ (f1.mono fun k e=>old k e) a4 a5 (fun k e=>(hA4 k e).elim (fun e=>(old k (.inl e)).elim) id) (fun k e=>(hA5 k e).elim (fun e=>(old k (.inr e)).elim) id) (coV.mono fun k h=>List.mem_cons_of_mem _ (by rw[←hFF];exact List.mem_append_left _ h)) (coE.mono fun k h=>List.mem_cons_of_mem _ (by rw[←hFF];exact List.mem_append_left _ h)) (by simpa[wG]using hNi)
  all_goals rfl
 |cons x l=>
  have hlt:i<nt:=by rw[BC]at hil;omega
  have d1:decide (i<nt)=true:=decide_eq_true hlt;obtain⟨xs1,xs2,F1,F2,rfl,kp,hx1,o1,o2⟩:=A.cons (by rfl);obtain⟨V,rfl,oV⟩:=kd_inv o1;have kp1:=f1.at kp (old _)
  have hV:(dn++([strC x.name,V]++xs2))[i * 2+1]?=some V:=by
   rw[Br (by omega),hdn,show i * 2+1-i * 2=1 by omega];rfl
  obtain⟨okn,okc⟩:=hv x (hl x (List.mem_cons_self ..));have w1:IntKind.i64.wrap ((i:Int)+1)=((i+1:Nat):Int):=(i64w (by omega) (by omega)).trans (by omega);have hFN:=List.nodup_append.1 (hFF▸hF');have hFN2:=List.nodup_append.1 hFN.2.1;have hwl:wG (x::l)=sC x.chords+wG l:=by simp[wG,wK,sC]
  have hin:∀ k,k∈F1→k∈jk::F':=fun k h=>List.mem_cons_of_mem _ (by rw[←hFF];exact List.mem_append_right _ (List.mem_append_left _ h))
  have oV1:=ow_fr2 oV f1 (fun k _=>old k);simp only[c44k,Tryz.f44,pathE,Option.bind_some,Option.getD_some,gkS,tyD,tyO,kb1,kp1,d1,evE,Nat.reduceLT,Nat.reduceEqDiff,reduceCtorEq];refine LoopE.cast (fun Q s h=>?_) (ap_chords (γ:=γ) (E:=E) (b:=b) (ik:=i) (n0:=n0) (A3:=A3) ?_ ?_ ?_ ?_ ?_ ?_ kb1 kp1 hlt hV oV1 hFN2.1 a4 a5 (by omega) hb hjk (fun k hk=>hFn k (hin k hk)) (by omega) (by omega) okc (fun l1 h2 A4a A5a Xs ns Ys ms q1 q3 q4 q5 q7 f2 b4 b5 hb4 hb5 cX cY hXY=>?_))
  ·simp only[c44c,Tryz.f44,pathE,Option.bind_some,Option.getD_some,evE]at h;exact h
  rotate_right
  ·have f2':Fr (W2 A4 A5) hh h2:=f1.trans f2 fun k e=>e.elim (fun e=>(hA4 k e).imp .inl id) fun e=>(hA5 k e).imp .inr id
   have cX':Co 9 1 hh Xs ns F1:=cX.back f1 fun k hk=>⟨hlF k (hin k hk),old k⟩
   have cY':Co 115 9 hh Ys ms F1:=cY.back f1 fun k hk=>⟨hlF k (hin k hk),old k⟩
   simp only[q7,w1,evE,Nat.reduceLT,Nat.reduceEqDiff,reduceCtorEq];refine loopCE.intro (i+1,A4a,A5a,h2) ⟨dn++[strC x.name,V],l,FD++F1,F2,XV++Xs,nV++ns,XE++Ys,nE++ms,?_,?_,⟨xs2,by rw[kp];simp,o2⟩,by rw[Bo];exact hFF,fun p h=>hl p (List.mem_cons_of_mem _ h),f2',b4,b5,fun k e=>(hb4 k e).elim (hA4 k) fun e=>.inr (by omega),fun k e=>(hb5 k e).elim (hA5 k) fun e=>.inr (by omega),?_,?_,?_⟩ ⟨rfl,rfl,⟨q1,q3,q4,q5,rfl,trivial⟩,rfl⟩ (by show nt-(i+1)<nt-i;clear w1;omega)
   ·rw[BC]at hil;show i+1+l.length=nt;clear w1;omega
   ·rw[Bp,hdn];show i * 2+2=(i+1) * 2;clear w1;omega
   ·exact coV.append cX' (fun k h1 h2=>hFN.2.2 k h1 k (List.mem_append_left _ h2) rfl) (fun k h=>List.mem_append_left _ h) fun k h=>List.mem_append_right _ h
   ·exact coE.append cY' (fun k h1 h2=>hFN.2.2 k h1 k (List.mem_append_left _ h2) rfl) (fun k h=>List.mem_append_left _ h) fun k h=>List.mem_append_right _ h
   ·simp only[Bp];clear w1;omega
  all_goals rfl
structure Fm(t:TypeId)(sz:Nat)(h:List ABlk)(Ns:List AV)(ns:List Nat)(ex:Nat→Nat)(P:Nat→Nat→AV→Prop):Prop where
 len:Ns.length=ns.length
 row:∀ (i:Nat) (N:AV) (n:Nat),Ns[i]?=some N→ns[i]?=some n→(N=.v (.slice none 0 0)∧n+ex i=0)∨∃ j ver cs,N=.own j ver (n+ex i)∧0<n+ex i∧h[j]?=some ⟨ver,t,cs⟩∧cs.length=(n+ex i) * sz∧∀ (k:Nat) (c:AV),k<n→cs[k * sz]?=some c→P i k c
 dj:Dj Ns
 bnd:∀ n∈ns,n≤2000000
def Rw(Ns:List AV)(k:Nat):Prop:=∃ (i:Nat) (N:AV),Ns[i]?=some N∧nbk N k
theorem Co.fm{t:TypeId}{sz:Nat}{h:List ABlk}{Ns:List AV}{ns:List Nat}{F:List Nat}(a:Co t sz h Ns ns F):Fm t sz h Ns ns (fun _=>0) (fun _ _ _=>True):=by
 refine⟨a.len,fun i N n e e'=>?_,a.dj,fun n hn=>?_⟩
 ·rcases (a.ln i N n e e').1 with⟨rfl,rfl⟩|⟨j,ver,cs,rfl,h1,h2,h3⟩
  ·exact .inl ⟨rfl,rfl⟩
  ·exact .inr ⟨j,ver,cs,rfl,h1,h2,h3,fun _ _ _ _=>trivial⟩
 ·obtain⟨i,hi,e⟩:=List.mem_iff_getElem.1 hn;have hl:i<Ns.length:=by rw[a.len];exact hi
  exact (a.ln i Ns[i] n (by simp[hl]) (by simp[hi,e])).2
theorem Co.rw{t:TypeId}{sz:Nat}{h:List ABlk}{Ns:List AV}{ns:List Nat}{F:List Nat}(a:Co t sz h Ns ns F){k:Nat}(hk:Rw Ns k):k∈F:=by
 obtain⟨i,N,e,hk⟩:=hk;exact a.mem N (List.mem_of_getElem? e) k hk
theorem Fm.fr{t:TypeId}{sz:Nat}{h h':List ABlk}{Ns:List AV}{ns:List Nat}{ex:Nat→Nat}{P:Nat→Nat→AV→Prop}{S:Nat→Prop}(a:Fm t sz h Ns ns ex P)(f:Fr S h h')(hS:∀ k,Rw Ns k→¬S k):Fm t sz h' Ns ns ex P:=
 ⟨a.len,fun i N n e e'=>(a.row i N n e e').imp id fun⟨j,ver,cs,h1,h2,h3,h4⟩=>⟨j,ver,cs,h1,h2,f.at h3 (hS j ⟨i,N,e,by rw[h1];rfl⟩),h4⟩,a.dj,a.bnd⟩
theorem Fm.lt{t:TypeId}{sz:Nat}{h:List ABlk}{Ns:List AV}{ns:List Nat}{ex:Nat→Nat}{P:Nat→Nat→AV→Prop}(a:Fm t sz h Ns ns ex P){k:Nat}(hk:Rw Ns k):∃ ver cs,h[k]?=some ⟨ver,t,cs⟩:=by
 obtain⟨i,N,e,hk⟩:=hk;have hi:i<ns.length:=by rw[←a.len];exact (Bs.1 e).1
 rcases a.row i N ns[i] e (by simp[hi])with⟨rfl,_⟩|⟨j,ver,cs,rfl,_,h3,_⟩
 ·exact hk.elim
 ·have hk:k=j:=hk;subst hk;exact⟨ver,cs,h3⟩
theorem Fm.ne{t t':TypeId}{sz sz':Nat}{h:List ABlk}{Ns Ns':List AV}{ns ns':List Nat}{ex ex':Nat→Nat}{P P':Nat→Nat→AV→Prop}(a:Fm t sz h Ns ns ex P)(b:Fm t' sz' h Ns' ns' ex' P')(ht:t≠t'):∀ k,Rw Ns k→¬Rw Ns' k:=fun k h1 h2=>by
 obtain⟨v1,c1,e1⟩:=a.lt h1;obtain⟨v2,c2,e2⟩:=b.lt h2;rw[e1]at e2;cases e2;exact ht rfl
theorem Fm.ar{t te:TypeId}{sz n0:Nat}{h:List ABlk}{Ns Ms:List AV}{A:AV}{ns:List Nat}{ex:Nat→Nat}{P:Nat→Nat→AV→Prop}(a:Fm t sz h Ns ns ex P)(b:AR te n0 h A Ms)(ht:t≠te):∀ k,Rw Ns k→¬nbk A k:=fun k h1 h2=>by
 obtain⟨v1,c1,e1⟩:=a.lt h1
 rcases b with⟨rfl,_⟩|⟨j,ver,rfl,_,_,hj⟩
 ·exact h2
 ·have h2:k=j:=h2;subst h2;rw[e1]at hj;cases hj;exact ht rfl
theorem Fm.write{t:TypeId}{sz:Nat}{h:List ABlk}{Ns:List AV}{ns:List Nat}{ex:Nat→Nat}{P P':Nat→Nat→AV→Prop}(a:Fm t sz h Ns ns ex P){i j ver m n:Nat}{cs cs':List AV}(hi:Ns[i]?=some (.own j ver m))(hn:ns[i]?=some n)(hj:h[j]?=some ⟨ver,t,cs⟩)
  (hl:cs'.length=cs.length) (hP:∀ (i' k:Nat) (c:AV),i'≠i→P i' k c→P' i' k c) (hP2:(∀ (k:Nat) (c:AV),k<n→cs[k * sz]?=some c→P i k c)→∀ (k:Nat) (c:AV),k<n→cs'[k * sz]?=some c→P' i k c):Fm t sz (h.set j ⟨ver,t,cs'⟩) Ns ns ex P':=by
 have hjl:=(Bs.1 hj).1;refine⟨a.len,fun i' N' n' e e'=>?_,a.dj,a.bnd⟩
 by_cases hii:i'=i
 ·subst hii;rw[hi]at e;cases e;rw[hn]at e';cases e'
  rcases a.row i' _ n hi hn with⟨e,_⟩|⟨j1,v1,c1,e,h1,h2,h3,h4⟩
  ·cases e
  ·cases e;rw[hj]at h2;cases h2;exact .inr ⟨j,ver,cs',rfl,h1,Be hjl,by rw[hl,h3],hP2 h4⟩
 ·rcases a.row i' N' n' e e' with h1|⟨j1,v1,c1,rfl,h1,h2,h3,h4⟩
  ·exact .inl h1
  ·have hne:j1≠j:=fun ej=>a.dj i' i _ _ e hi hii j1 rfl ej
   exact .inr ⟨j1,v1,c1,rfl,h1,(Bn hne.symm).trans h2,h3,fun k c hk hc=>hP i' k c hii (h4 k c hk hc)⟩
theorem Fm.repl{t:TypeId}{sz:Nat}{h h':List ABlk}{Ns:List AV}{ns:List Nat}{ex ex':Nat→Nat}{P:Nat→Nat→AV→Prop}(a:Fm t sz h Ns ns ex P){i n:Nat}{N N':AV}(hi:Ns[i]?=some N)(hn:ns[i]?=some n)(f:Fr (nbk N) h h')(hb:∀ k,nbk N' k→nbk N k∨h.length≤k)
  (hex:∀ i',i'≠i→ex' i'=ex i') (hr:∃ j ver cs,N'=.own j ver (n+ex' i)∧0<n+ex' i∧h'[j]?=some ⟨ver,t,cs⟩∧cs.length=(n+ex' i) * sz∧∀ (k:Nat) (c:AV),k<n→cs[k * sz]?=some c→P i k c):Fm t sz h' (Ns.set i N') ns ex' P:=by
 have hil:=(Bs.1 hi).1
 have gt:∀ {i':Nat} {M:AV},(Ns.set i N')[i']?=some M→(i'=i∧M=N')∨(i'≠i∧Ns[i']?=some M):=fun {i' M} e=>by
  by_cases hii:i'=i
  ·subst hii;rw[Be hil]at e;cases e;exact .inl ⟨rfl,rfl⟩
  ·rw[Bn (Ne.symm hii)]at e;exact .inr ⟨hii,e⟩
 have lt:∀ {i':Nat} {M:AV},Ns[i']?=some M→∀ k,nbk M k→k<h.length:=fun {i' M} e k hk=>by
  obtain⟨_,_,h1⟩:=a.lt ⟨i',M,e,hk⟩;exact (Bs.1 h1).1
 refine⟨by rw[Bl];exact a.len,fun i' M n' e e'=>?_,fun i1 i2 M1 M2 e1 e2 hi12 k hk1 hk2=>?_,a.bnd⟩
 ·rcases gt e with⟨rfl,rfl⟩|⟨hii,e⟩
  ·rw[hn]at e';cases e';exact .inr hr
  ·rw[hex i' hii]
   rcases a.row i' M n' e e' with h1|⟨j1,v1,c1,rfl,h1,h2,h3⟩
   ·exact .inl h1
   ·exact .inr ⟨j1,v1,c1,rfl,h1,f.at h2 (fun hk=>a.dj i' i _ _ e hi hii j1 rfl hk),h3⟩
 ·rcases gt e1 with⟨rfl,rfl⟩|⟨h1,d1⟩<;>rcases gt e2 with⟨rfl,rfl⟩|⟨h2,d2⟩
  ·exact hi12 rfl
  ·exact (hb k hk1).elim (fun hk=>a.dj _ _ _ _ hi d2 (Ne.symm h2) k hk hk2) fun hk=>by have:=lt d2 k hk2;omega
  ·exact (hb k hk2).elim (fun hk=>a.dj _ _ _ _ hi d1 (Ne.symm h1) k hk hk1) fun hk=>by have:=lt d1 k hk1;omega
  ·exact a.dj _ _ _ _ d1 d2 hi12 k hk1 hk2
theorem Fm.weak{t:TypeId}{sz:Nat}{h:List ABlk}{Ns:List AV}{ns:List Nat}{ex ex':Nat→Nat}{P P':Nat→Nat→AV→Prop}(a:Fm t sz h Ns ns ex P)(he:∀ i,i<ns.length→ex' i=ex i)(hP:∀ (i k n:Nat) (c:AV),ns[i]?=some n→k<n→P i k c→P' i k c):Fm t sz h Ns ns ex' P':=
 ⟨a.len,fun i N n e e'=>by
  rw[he i (Bs.1 e').1];exact (a.row i N n e e').imp id fun⟨j,ver,cs,h1,h2,h3,h4,h5⟩=>⟨j,ver,cs,h1,h2,h3,h4,fun k c hk hc=>hP i k n c e' hk (h5 k c hk hc)⟩,a.dj,a.bnd⟩
end Go.Proofs.YtlobiioioicmhaaGreatDoor.O
