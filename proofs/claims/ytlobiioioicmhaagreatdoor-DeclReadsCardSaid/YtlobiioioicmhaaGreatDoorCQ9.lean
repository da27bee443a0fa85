/- A part of the proof. -/
import Derived.Test.YtlobiioioicmhaaGreatDoorCQ8
set_option linter.all false
set_option maxHeartbeats 8000000
namespace Go.Proofs.YtlobiioioicmhaaGreatDoor
open _root_.Bool renaming not_true→Bv,not_false→Bf
open _root_.List renaming getElem?_eq_some_iff→Bs,getElem?_append_left→Ba,getElem?_set_self→Be,getElem?_set_ne→Bn,length_append→Bp,append_assoc→Bo,getElem?_eq_none→Bq,length_drop→Bd,length_cons→BC,length_nil→BD,mem_cons→BI,getElem?_drop→BX,getElem?_take→BY
open _root_.Nat renaming le_refl→BL,le_trans→BM,zero_le→BN
open Go.Proofs.Tryz renaming prog→Tp
open Go Go.Ev
set_option maxRecDepth 20000
variable {γ:List (Nat×AV)} {ts:List Tk} {L:AV}
theorem RS.app{h:List Aa}{i p:Nat}{L N:AV}{ns:List Nd}(a:RS h i L p N ns)(l:List Aa):RS (h++l) i L p N ns:=
 ⟨(Ba a.lt).trans a.1,a.2.fr (S:=fun _=>False) (Fr.app h l) fun _ _ h=>h⟩
theorem RS.nlt{h:List Aa}{i p:Nat}{L N:AV}{ns:List Nd}(a:RS h i L p N ns){k:Nat}(hk:AZ N k):k<h.length:=by
 rcases a.2 with⟨rfl,_⟩|⟨j,ver,rfl,hj⟩
 ·exact hk.elim
 ·have hk':k=j:=hk;subst hk';exact (Bs.1 hj).1
theorem RS.setO{h:List Aa}{i p:Nat}{L N:AV}{ns:List Nd}(a:RS h i L p N ns){j:Nat}{b:Aa}(hj:j≠i)(hn:¬AZ N j):RS (h.set j b) i L p N ns:=
 ⟨(Bn hj).trans a.1,a.2.fr (S:=fun k=>k=j) (Fr.set _ rfl) fun k hk e=>hn (e▸hk)⟩
theorem iA(hL:EV L ts)(hb:ts.length<4611686018427387904){f:Nat}(H:∀ g≤f,Wu γ ts L g)(s:List UInt8):Jd γ ts L (f+1) 283 [.v (.string ⟨s.toArray⟩)] (.nm s):=by
 intro h i p N ns hp hf hr hB;have hi:=hr.1
 have leaf:∀ (k:Int) (nm:List UInt8) (vk vi:Int) (vr:Nat) (vt:List UInt8) (r:AV) (h2:List Aa),pr ts (f+1) (.nm s) p=.ok (.lf k nm vk vi vr vt) p→cF L i p N ns ⟨k,0,0,nm,vk,vi,vr,vt⟩ h (.ret r) h2→
   D8 L i N h ns (pr ts (f+1) (.nm s) p) (.ret r) h2:=by
  intro k nm vk vi vr vt r h2 e ⟨e2,f2,N2,r2,n2⟩;cases e2;exact D8.ok_mk (t:=.lf k nm vk vi vr vt) e (by show (ns.length:Int)=((ns.length+1-1:Nat):Int);rw[Nat.add_sub_cancel]) f2 r2 rfl n2
 have hB1:(ns.length+1) * 96≤140737488355328:=BM (Nat.mul_le_mul_right 96 (by omega)) hB;refine Ck.of Tryz.func283 rfl ?_;simp only[Tryz.f283,Af,seval];refine Ao.pure (Ag.intro c299 rfl (dH _) ?_)
 by_cases ht:s=Pv
 ·have d1:(s==[116,114,117,101])=true:=by rw[ht];rfl
  simp only[d1,Af,A7,seval];refine Ao.intro NF _ (GY hr ⟨1,0,0,[],5,1,0,[]⟩ hB1) (fun r h2 hh=>?_) (fun v h2 hh=>by cases hh.1);simp only[Af,seval];exact leaf _ _ _ _ _ _ _ _ (by rw[pr,if_pos ht]) hh
 have d1:(s==[116,114,117,101])=false:=by simpa[Pv]using ht
 by_cases hfa:s=Lz
 ·have d2:(s==[102,97,108,115,101])=true:=by rw[hfa];rfl
  simp only[d1,d2,Af,A7,seval];refine Ao.intro NF _ (GY hr ⟨1,0,0,[],5,0,0,[]⟩ hB1) (fun r h2 hh=>?_) (fun v h2 hh=>by cases hh.1);simp only[Af,seval];exact leaf _ _ _ _ _ _ _ _ (by rw[pr,if_neg ht,if_pos hfa]) hh
 have d2:(s==[102,97,108,115,101])=false:=by simpa[Lz]using hfa
 by_cases hw:B0 s=0
 ·have d3:(B0 s==0)=true:=by simpa using hw
  simp only[d1,d2,d3,Af,A7,seval];refine Ao.intro NF _ (GY hr ⟨2,0,0,s,0,0,0,[]⟩ hB1) (fun r h2 hh=>?_) (fun v h2 hh=>by cases hh.1);simp only[Af,seval];exact leaf _ _ _ _ _ _ _ _ (by rw[pr,if_neg ht,if_neg hfa,if_pos hw]) hh
 have d3:(B0 s==0)=false:=by simpa using hw
 simp only[d1,d2,d3,Af,seval];refine Ao.intro Zk _ (Ll hL hr (by omega) [40]) (fun r h2 hh=>?_) (fun v h2 hh=>?_)
 rotate_left
 ·unfold HL at hh
  split at hh
  ·cases hh.1
  ·rename_i hm;obtain⟨e,rfl⟩:=hh;cases e;show D8 L i N h2 ns (pr ts (f+1) (.nm s) p) (.pan (Hm p)) h2;rw[pr,if_neg ht,if_neg hfa,if_neg hw,if_pos hm];exact⟨Fr.refl _ _,rfl⟩
 unfold HL at hh
 split at hh
 rotate_left
 ·cases hh.1
 rename_i hm;obtain⟨e,rfl⟩:=hh;cases e;have hlt:p<ts.length:=CW hm;have hn2:Md.need ts (p+1) (.bin 1)≤f:=by simp only[Md.need]at hf⊢;omega
 have epr:pr ts (f+1) (.nm s) p=match pr ts f (.bin 1) (p+1)with
   |.bad q=>.bad q
   |.ok a q=>if De (B0 s)=2 then (if Cv ts q≠[44]then .bad q else match pr ts f (.bin 1) (q+1)with
     |.bad r=>.bad r
     |.ok b r=>if Cv ts r=[41]then .ok (.bi (B0 s) a b) (r+1)else .bad r)
    else if Cv ts q=[41]then .ok (.un (B0 s) a) (q+1)else .bad q:=by
  rw[pr,if_neg ht,if_neg hfa,if_neg hw,if_neg (fun h=>h hm)];cases pr ts f (.bin 1) (p+1)with
  |bad q=>rfl
  |ok a q=>
   show (if _ then (if _ then _ else _)else _)=(if _ then (if _ then _ else _)else _)
   cases pr ts f (.bin 1) (q+1)<;>rfl
 simp only[Af,seval];refine Ao.intro XE _ ((H f (BL _)).bin 1 (by decide) (by decide) _ i (p+1) N ns hlt hn2 (hr.move (p+1)) (WW hB (by omega))) (fun r h3 hh=>?_) (fun v h3 hh=>?_)
 rotate_left
 ·cases e:pr ts f (.bin 1) (p+1)with
  |ok b q'=>rw[e]at hh;exact hh.ok_pan.elim
  |bad q'=>
   rw[e]at hh epr;show D8 L i N h ns (pr ts (f+1) (.nm s) p) (.pan v) h3;rw[epr];exact hh.bad_of (Ej _) fun k hk=>.inl hk
 cases e:pr ts f (.bin 1) (p+1)with
 |bad q'=>rw[e]at hh;exact hh.bad_ret.elim
 |ok a q=>
  rw[e]at hh epr;obtain⟨er,f3,N3,r3,n3⟩:=hh.ok_ret;subst er;have n3':∀ k,AZ N3 k→AZ N k∨h.length≤k:=fun k hk=>(n3 k hk).imp id fun e=>by simpa using e
  have f03:Fr (RP i N) h h3:=Fr.more (Ej _) f3 fun k hk=>.inl hk
  obtain⟨⟨g1,g2⟩,g3⟩:=Eo ts f (.bin 1) (p+1) a q hlt e;have s1:∀ x,(h3++[x])[h3.length]?=some x:=fun x=>by simp
  have s2:∀ x y,(h3++[x]).set h3.length y=h3++[y]:=fun x y=>by simp
  simp only[s1,s2,Af,A7,seval];refine Ao.pure (Ag.intro mY rfl (Ma _) ?_);simp only[Af,seval];have hlen:(ns++lay a ns.length).length=ns.length+a.size:=by rw[Bp,B2]
  have ra:RS (h3++[⟨0,115,Nd.cells ⟨B0 s,((ns.length+a.size-1:Nat):Int),0,[],0,0,0,[]⟩⟩]) i L q N3 (ns++lay a ns.length):=r3.app _;have fa:Fr (RP i N) h (h3++[⟨0,115,Nd.cells ⟨B0 s,((ns.length+a.size-1:Nat):Int),0,[],0,0,0,[]⟩⟩]):=Fr.more (N':=N3) f03 (Fr.app _ _) n3'
  by_cases hk:De (B0 s)=2
  ·have d4:(De (B0 s)==2)=true:=by simpa using hk
   simp only[d4,Af,seval]
   have epr2:pr ts (f+1) (.nm s) p=if Cv ts q≠[44]then .bad q else match pr ts f (.bin 1) (q+1)with
     |.bad r=>.bad r
     |.ok b r=>if Cv ts r=[41]then .ok (.bi (B0 s) a b) (r+1)else .bad r:=by rw[epr];exact if_pos hk
   refine Ao.intro Zk _ (Ll hL ra (by omega) [44]) (fun r h6 hh=>?_) (fun v h6 hh=>?_)
   rotate_left
   ·unfold HL at hh
    split at hh
    ·cases hh.1
    ·rename_i hm;obtain⟨e,rfl⟩:=hh;cases e;show D8 L i N h ns (pr ts (f+1) (.nm s) p) (.pan (Hm q)) _;rw[epr2,if_pos hm];exact⟨fa,rfl⟩
   unfold HL at hh
   split at hh
   rotate_left
   ·cases hh.1
   rename_i hm6;obtain⟨e,rfl⟩:=hh;cases e;have hltq:q<ts.length:=CW hm6;rw[if_neg (fun h=>h hm6)]at epr2;have hn4:Md.need ts (q+1) (.bin 1)≤f:=by simp only[Md.need]at hf⊢;omega
   simp only[Af,seval];refine Ao.intro XE _ ((H f (BL _)).bin 1 (by decide) (by decide) _ i (q+1) N3 (ns++lay a ns.length) hltq hn4 (ra.move (q+1)) (by rw[hlen];exact WW hB (by omega))) (fun r h4 hh=>?_) (fun v h4 hh=>?_)
   rotate_left
   ·cases e:pr ts f (.bin 1) (q+1)with
    |ok b q'=>rw[e]at hh;exact hh.ok_pan.elim
    |bad q'=>
     rw[e]at hh epr2;show D8 L i N h ns (pr ts (f+1) (.nm s) p) (.pan v) h4;rw[epr2];exact hh.bad_of (Fr.more fa (Ej _) n3') n3'
   cases e:pr ts f (.bin 1) (q+1)with
   |bad q'=>rw[e]at hh;exact hh.bad_ret.elim
   |ok b q5=>
    rw[e]at hh epr2;have epr3:pr ts (f+1) (.nm s) p=if Cv ts q5=[41]then .ok (.bi (B0 s) a b) (q5+1)else .bad q5:=epr2
    obtain⟨er,f4,N4,r4,n4⟩:=hh.ok_ret;subst er;rw[hlen]at r4;obtain⟨⟨j1,j2⟩,j3⟩:=Eo ts f (.bin 1) (q+1) b q5 hltq e;have hil:i<h3.length:=r3.lt;have nlt:∀ k,AZ N3 k→k<h3.length:=fun k hk=>r3.nlt hk
    have k4:h4[h3.length]?=some ⟨0,115,Nd.cells ⟨B0 s,((ns.length+a.size-1:Nat):Int),0,[],0,0,0,[]⟩⟩:=by
     refine f4.at ?_ (fun hk=>hk.elim (fun e=>by omega) fun e=>Nat.lt_irrefl _ (nlt _ e));rw[Bn (by omega)];exact s1 _
    have n4a:∀ k,AZ N4 k→AZ N3 k∨h3.length+1≤k:=fun k hk=>(n4 k hk).imp id fun e=>by simpa using e
    have n4':∀ k,AZ N4 k→AZ N k∨h.length≤k:=fun k hk=>(n4a k hk).elim (n3' k) fun e=>.inr (by have:=f03.1;omega)
    have hlen4:(ns++lay a ns.length++lay b (ns.length+a.size)).length=ns.length+a.size+b.size:=by rw[Bp,B2,hlen]
    have k4':=k4;simp only[Nd.cells]at k4';simp only[k4',hlen,Af,A7,seval];obtain⟨h5,hh5⟩:∃ h5,h5=h4.set h3.length ⟨0,115,Nd.cells ⟨B0 s,((ns.length+a.size-1:Nat):Int),((ns.length+a.size+b.size-1:Nat):Int),[],0,0,0,[]⟩⟩:=⟨_,rfl⟩;have hS:∀ k,k=h3.length→k≠i∧¬AZ N4 k:=fun k e=>⟨by omega,fun hk=>(n4a k hk).elim (fun hk=>by have:=nlt k hk;omega) fun hk=>by omega⟩
    have r5:RS h5 i L q5 N4 (ns++lay a ns.length++lay b (ns.length+a.size)):=by rw[hh5];exact r4.setO (hS _ rfl).1 (hS _ rfl).2
    have k5:h5[h3.length]?=some ⟨0,115,Nd.cells ⟨B0 s,((ns.length+a.size-1:Nat):Int),((ns.length+a.size+b.size-1:Nat):Int),[],0,0,0,[]⟩⟩:=by rw[hh5];exact Be ((Bs.1 k4).1)
    have f04:Fr (RP i N) h h4:=Fr.more (Fr.more fa (Ej _) n3') f4 n3';have f5:Fr (RP i N) h h5:=by rw[hh5];exact f04.trans (S1:=fun k=>k=h3.length) (Fr.set _ rfl) fun k e=>.inr (by have:=f03.1;omega)
    have hh5':=hh5;simp only[Nd.cells]at hh5';rw[←hh5'];refine Ao.intro Zk _ (Ll hL r5 (by omega) [41]) (fun r h6 hh=>?_) (fun v h6 hh=>?_)
    rotate_left
    ·unfold HL at hh
     split at hh
     ·cases hh.1
     ·rename_i hm;obtain⟨e,rfl⟩:=hh;cases e;show D8 L i N h ns (pr ts (f+1) (.nm s) p) (.pan (Hm q5)) _;rw[epr3,if_neg hm];exact⟨f5,rfl⟩
    unfold HL at hh
    split at hh
    rotate_left
    ·cases hh.1
    rename_i hm6;obtain⟨e,rfl⟩:=hh;cases e;have l6:=Bn (l:=h5) (a:=(⟨0,104,[L,.v (.int .i64 ((q5+1:Nat):Int)),N4]⟩:Aa)) (i:=i) (j:=h3.length) (by have:=r3.lt;omega);rw[k5]at l6;simp only[Nd.cells]at l6;simp only[l6,Af,A7,seval];refine Ao.intro NF _ (GY (RS.move r5 (q5+1)) ⟨B0 s,((ns.length+a.size-1:Nat):Int),((ns.length+a.size+b.size-1:Nat):Int),[],0,0,0,[]⟩ (by rw[hlen4];exact BM (Nat.mul_le_mul_right 96 (by omega)) hB)) (fun r h7 hh=>?_) (fun v h2 hh=>by cases hh.1);obtain⟨e7,f7,N7,r7,n7⟩:=hh;cases e7;simp only[Af,seval];have FR7:=Fr.more f5 (Ej (N:=N4) ⟨0,104,[L,.v (.int .i64 ((q5+1:Nat):Int)),N4]⟩) n4';have n7':∀ k,AZ N7 k→AZ N4 k∨h5.length≤k:=fun k hk=>(n7 k hk).imp id fun e=>by simpa using e
    exact D8.ok_mk (t:=.bi (B0 s) a b) (q:=q5+1) (by rw[epr3,if_pos hm6]) (by simp only[B2,Tr.size];omega) (Fr.more FR7 f7 n4') r7 (by simp only[lay,Bo]) (Hs f5.1 n4' n7')
  ·have d4:(De (B0 s)==2)=false:=by simpa using hk
   have epr2:pr ts (f+1) (.nm s) p=if Cv ts q=[41]then .ok (.un (B0 s) a) (q+1)else .bad q:=by rw[epr];exact if_neg hk
   simp only[d4,Af,seval];refine Ao.intro Zk _ (Ll hL ra (by omega) [41]) (fun r h6 hh=>?_) (fun v h6 hh=>?_)
   rotate_left
   ·unfold HL at hh
    split at hh
    ·cases hh.1
    ·rename_i hm;obtain⟨e,rfl⟩:=hh;cases e;show D8 L i N h ns (pr ts (f+1) (.nm s) p) (.pan (Hm q)) _;rw[epr2,if_neg hm];exact⟨fa,rfl⟩
   unfold HL at hh
   split at hh
   rotate_left
   ·cases hh.1
   rename_i hm6;obtain⟨e,rfl⟩:=hh;cases e;have l6:=Bn (l:=(h3++[⟨0,115,Nd.cells ⟨B0 s,((ns.length+a.size-1:Nat):Int),0,[],0,0,0,[]⟩⟩])) (a:=(⟨0,104,[L,.v (.int .i64 ((q+1:Nat):Int)),N3]⟩:Aa)) (i:=i) (j:=h3.length) (by have:=r3.lt;omega);rw[s1]at l6;simp only[Nd.cells]at l6;simp only[l6,Nd.cells,Af,A7,seval];refine Ao.intro NF _ (GY (RS.move ra (q+1)) ⟨B0 s,((ns.length+a.size-1:Nat):Int),0,[],0,0,0,[]⟩ (by rw[hlen];exact BM (Nat.mul_le_mul_right 96 (by omega)) hB)) (fun r h7 hh=>?_) (fun v h2 hh=>by cases hh.1);obtain⟨e7,f7,N7,r7,n7⟩:=hh;cases e7;simp only[Af,seval];have FR7:=Fr.more fa (Ej (N:=N3) ⟨0,104,[L,.v (.int .i64 ((q+1:Nat):Int)),N3]⟩) n3';have n7':∀ k,AZ N7 k→AZ N3 k∨(h3++[(⟨0,115,Nd.cells ⟨B0 s,((ns.length+a.size-1:Nat):Int),0,[],0,0,0,[]⟩⟩:Aa)]).length≤k:=fun k hk=>(n7 k hk).imp id fun e=>by simpa using e
   exact D8.ok_mk (t:=.un (B0 s) a) (q:=q+1) (by rw[epr2,if_pos hm6]) (by simp only[B2,Tr.size];omega) (Fr.more FR7 f7 n3') r7 (by rw[Bo];rfl) (Hs fa.1 n3' n7')
theorem EV.take{ts:List Tk}{cs:List AV}(h:C3 ts<+:cs){p:Nat}{t:Tk}(hp:ts[p]?=some t):(cs.drop (p * 6)).take 6=t.cells:=by
 obtain⟨h0,h1,h2,h3,h4,h5⟩:=EV.at h hp
 apply List.ext_getElem?
 intro j;rw[BY]
 split
 ·rename_i hj;rw[BX];have:j=0∨j=1∨j=2∨j=3∨j=4∨j=5:=by omega
  rcases this with rfl|rfl|rfl|rfl|rfl|rfl
  ·exact h0
  ·exact h1
  ·exact h2
  ·exact h3
  ·exact h4
  ·exact h5
 ·rename_i hj;rw[Bq];simp only[Tk.cells,BC,BD];omega
theorem EV.len{ts:List Tk}{cs:List AV}(h:C3 ts<+:cs){p:Nat}(hp:p<ts.length):p * 6+6≤cs.length:=by
 have:=h.length_le;rw[Fm]at this
 omega
theorem cP(hL:EV L ts)(hb:ts.length<4611686018427387904){f:Nat}(H:∀ g≤f,Wu γ ts L g):Jd γ ts L (f+1) 245 [] .fs:=by
 intro h i p N ns hp hf hr hB;have hi:=hr.1;have w1:IntKind.i64.wrap ((p:Int)+1)=((p+1:Nat):Int):=bR hp hb;refine Ck.of Tryz.func245 rfl ?_;simp only[Tryz.f245,Af,seval];refine Ao.intro fU _ (MM hL hr) (fun r h2 hh=>?_) (fun v h' hh=>by cases hh.1);obtain⟨e,rfl⟩:=hh;cases e
 by_cases hm:Cv ts p=[40]
 ·have d1:(Cv ts p==[40])=true:=by simpa using hm
  have hlt:p<ts.length:=CW hm;have hn2:Md.need ts (p+1) (.bin 1)≤f:=by clear w1;simp only[Md.need]at hf⊢;omega
  have epr:pr ts (f+1) .fs p=match pr ts f (.bin 1) (p+1)with
   |.bad q=>.bad q
   |.ok a q=>if Cv ts q=[41]then .ok a (q+1)else .bad q:=by
   rw[pr,if_pos hm]<;>cases pr ts f (.bin 1) (p+1)<;>rfl
  simp only[d1,hi,w1,Af,A7,seval];refine Ao.intro XE _ ((H f (BL _)).bin 1 (by decide) (by decide) _ i (p+1) N ns hlt hn2 (hr.move (p+1)) (WW hB (by clear w1;omega))) (fun r h3 hh=>?_) (fun v h3 hh=>?_)
  rotate_left
  ·cases e:pr ts f (.bin 1) (p+1)with
   |ok b q'=>rw[e]at hh;exact hh.ok_pan.elim
   |bad q'=>
    rw[e]at hh epr;show D8 L i N h2 ns (pr ts (f+1) .fs p) (.pan v) h3;rw[epr];exact hh.bad_of (Ej _) fun k hk=>.inl hk
  cases e:pr ts f (.bin 1) (p+1)with
  |bad q'=>rw[e]at hh;exact hh.bad_ret.elim
  |ok a q=>
   rw[e]at hh epr;obtain⟨er,f3,N3,r3,n3⟩:=hh.ok_ret;subst er;have n3':∀ k,AZ N3 k→AZ N k∨h2.length≤k:=fun k hk=>(n3 k hk).imp id fun e=>by simpa using e
   have f03:Fr (RP i N) h2 h3:=Fr.more (Ej _) f3 fun k hk=>.inl hk
   obtain⟨⟨g1,g2⟩,g3⟩:=Eo ts f (.bin 1) (p+1) a q hlt e;have epr2:pr ts (f+1) .fs p=if Cv ts q=[41]then .ok a (q+1)else .bad q:=epr
   simp only[Af,seval];refine Ao.intro Zk _ (Ll hL r3 (by clear w1;omega) [41]) (fun r h6 hh=>?_) (fun v h6 hh=>?_)
   rotate_left
   ·unfold HL at hh
    split at hh
    ·cases hh.1
    ·rename_i hm;obtain⟨e,rfl⟩:=hh;cases e;show D8 L i N h2 ns (pr ts (f+1) .fs p) (.pan (Hm q)) _;rw[epr2,if_neg hm];exact⟨f03,rfl⟩
   unfold HL at hh
   split at hh
   rotate_left
   ·cases hh.1
   rename_i hm6;obtain⟨e,rfl⟩:=hh;cases e;simp only[Af,seval];exact D8.ok_mk (t:=a) (q:=q+1) (by rw[epr2,if_pos hm6]) rfl (Fr.more f03 (Ej _) n3') (r3.move (q+1)) rfl n3'
 ·have d1:(Cv ts p==[40])=false:=by simpa using hm
  have stop:pr ts (f+1) .fs p=.bad p→D8 L i N h2 ns (pr ts (f+1) .fs p) (.pan (Hm p)) h2:=fun e=>by rw[e];exact⟨Fr.refl _ _,rfl⟩
  have leaf:∀ (nd:Nd) (t:Tr) (h3 h4:List Aa) (r:AV),pr ts (f+1) .fs p=.ok t (p+1)→lay t ns.length=[nd]→t.size=1→Fr (RP i N) h2 h3→cF L i (p+1) N ns nd h3 (.ret r) h4→D8 L i N h2 ns (pr ts (f+1) .fs p) (.ret r) h4:=by
   intro nd t h3 h4 r e hl ht f3 ⟨e2,f4,N4,r4,n4⟩;cases e2;refine D8.ok_mk (t:=t) (q:=p+1) e ?_ (Fr.more f3 f4 fun k hk=>.inl hk) r4 (by rw[hl]) (Hs f3.1 (fun k hk=>.inl hk) n4);rw[ht,Nat.add_sub_cancel]
  rcases hL with⟨rfl,rfl⟩|⟨b,m,cs,rfl,hcs⟩
  ·have hp0:p=0:=Nat.le_zero.1 hp;subst hp0;have d0:(((0:Nat):Int)==0)=true:=rfl;simp only[d1,Af,seval]
   (repeat' (first|(with_reducible refine aI ?_ ?_)|(first|(first|refine gF ?_ ?_|refine gT ?_ ?_|refine cI ?_ ?_|refine pI ?_ ?_)<;>intro h|(refine dI ?_;have h:=trivial))<;>simp only[h,d1,hi,d0,Af,A7,Bv,Bf,seval]))
   exact stop (by rw[pr,if_neg hm];rfl)
  ·by_cases hlt:p<ts.length
   ·have d2:((p:Int)==(ts.length:Int))=false:=by simp only[beq_eq_false_iff_ne,ne_eq];clear w1;omega
    have ht:ts[p]?=some ts[p]:=by simp[hlt]
    generalize ts[p]=t at ht;have htk:=EV.take hcs ht;have htl:=EV.len hcs hlt;obtain⟨k0,k1,k2,k3,k4,k5⟩:=EV.at hcs ht;have g1:∀ l,(h2++l)[i]?=some ⟨0,104,[.sl b ts.length m cs,.v (.int .i64 p),N]⟩:=fun l=>(Ba hr.lt).trans hi
    have s1:∀ x,(h2++[x])[h2.length]?=some x:=fun x=>by simp
    have s2:∀ x y,(h2++[x]).set h2.length y=h2++[y]:=fun x y=>by simp
    by_cases hk5:t.kind=5
    ·have d3:(t.kind==5)=true:=by simpa using hk5
     simp only[d1,Af,seval]
     (repeat' (first|(with_reducible refine aI ?_ ?_)|(first|(first|refine gF ?_ ?_|refine gT ?_ ?_|refine cI ?_ ?_|refine pI ?_ ?_)<;>intro h|(refine dI ?_;have h:=trivial))<;>simp only[h,d1,hi,d2,d3,k0,Af,A7,Bv,Bf,seval]))
     ·exact hlt
     ·exact stop (by rw[pr,if_neg hm,ht];exact if_pos hk5)
    ·have d3:(t.kind==5)=false:=by simpa using hk5
     simp only[d1,Af,seval];refine dI ?_;simp only[hi,d2,d3,k0,Af,A7,seval];refine⟨hlt,?_⟩;refine dX ?_;have htl2:6≤(cs.drop (p * 6)).length:=by rw[Bd];clear w1;omega
     have s3:∀ x y,((h2++[x]).set i y)[h2.length]?=some x:=fun x y=>(Bn (by have:=hr.lt;omega)).trans (s1 x)
     have rm:=(hr.app [⟨0,53,t.cells⟩]).move (p+1);have fm:Fr (RP i N) h2 ((h2++[(⟨0,53,t.cells⟩:Aa)]).set i ⟨0,104,[.sl b ts.length m cs,.v (.int .i64 ((p+1:Nat):Int)),N]⟩):=Fr.more (N':=N) (Fr.app _ _) (Ej _) fun k hk=>.inl hk
     have hB1:(ns.length+1) * 96≤140737488355328:=BM (Nat.mul_le_mul_right 96 (by clear w1;omega)) hB
     by_cases h2':t.kind=2
     ·have e2:(t.kind==2)=true:=by simpa using h2'
      simp only[hi,htk,htl2,Tk.cells,g1,s1,s2,s3,w1,e2,Af,A7,seval];refine⟨hlt,?_⟩;refine Ao.intro NF _ (GY rm ⟨1,0,0,[],1,t.int,0,[]⟩ hB1) (fun r h4 hh=>?_) (fun v h2 hh=>by cases hh.1);simp only[Af,seval];exact leaf _ (.lf 1 [] 1 t.int 0 []) _ _ _ (by rw[pr,if_neg hm,ht];simp only[if_neg hk5,if_pos h2']) rfl rfl fm hh
     have e2:(t.kind==2)=false:=by simpa using h2'
     by_cases h3':t.kind=3
     ·have e3:(t.kind==3)=true:=by simpa using h3'
      simp only[hi,htk,htl2,Tk.cells,g1,s1,s2,s3,w1,e2,e3,Af,A7,seval];refine⟨hlt,?_⟩;refine Ao.intro NF _ (GY rm ⟨1,0,0,[],2,0,t.real,[]⟩ hB1) (fun r h4 hh=>?_) (fun v h2 hh=>by cases hh.1);simp only[Af,seval];exact leaf _ (.lf 1 [] 2 0 t.real []) _ _ _ (by rw[pr,if_neg hm,ht];simp only[if_neg hk5,if_neg h2',if_pos h3']) rfl rfl fm hh
     have e3:(t.kind==3)=false:=by simpa using h3'
     by_cases h4':t.kind=4
     ·have e4:(t.kind==4)=true:=by simpa using h4'
      simp only[hi,htk,htl2,Tk.cells,g1,s1,s2,s3,w1,e2,e3,e4,Af,A7,seval];refine⟨hlt,?_⟩;refine Ao.intro NF _ (GY rm ⟨1,0,0,[],4,0,0,t.text⟩ hB1) (fun r h4 hh=>?_) (fun v h2 hh=>by cases hh.1);simp only[Af,seval];exact leaf _ (.lf 1 [] 4 0 0 t.text) _ _ _ (by rw[pr,if_neg hm,ht];simp only[if_neg hk5,if_neg h2',if_neg h3',if_pos h4']) rfl rfl fm hh
     have e4:(t.kind==4)=false:=by simpa using h4'
     simp only[hi,htk,htl2,Tk.cells,g1,s1,s2,s3,w1,e2,e3,e4,Af,A7,seval];refine⟨hlt,?_⟩;have epr:pr ts (f+1) .fs p=pr ts f (.nm t.text) (p+1):=by rw[pr,if_neg hm,ht];simp only[if_neg hk5,if_neg h2',if_neg h3',if_neg h4']
     have hn2:Md.need ts (p+1) (.nm t.text)≤f:=by clear w1;simp only[Md.need]at hf⊢;omega
     refine Ao.intro c283 _ ((H f (BL _)).nm t.text _ i (p+1) N ns hlt hn2 rm (WW hB (by clear w1;omega))) (fun r h4 hh=>?_) (fun v h4 hh=>?_)
     ·simp only[Af,seval];rw[epr];cases e:pr ts f (.nm t.text) (p+1)with
      |bad q=>rw[e]at hh;exact hh.bad_ret.elim
      |ok a q=>
       rw[e]at hh;obtain⟨er,f4,N4,r4,n4⟩:=hh.ok_ret;subst er;exact D8.ok_mk (t:=a) (q:=q) rfl rfl (Fr.more fm f4 fun k hk=>.inl hk) r4 rfl (Hs fm.1 (fun k hk=>.inl hk) n4)
     ·show D8 (.sl b ts.length m cs) i N h2 ns (pr ts (f+1) .fs p) (.pan v) h4
      rw[epr];cases e:pr ts f (.nm t.text) (p+1)with
      |bad q=>rw[e]at hh;exact hh.bad_of fm fun k hk=>.inl hk
      |ok a q=>rw[e]at hh;exact hh.ok_pan.elim
   ·have d2:((p:Int)==(ts.length:Int))=true:=by simp only[beq_iff_eq];clear w1;omega
    simp only[d1,Af,seval]
    (repeat' (first|(with_reducible refine aI ?_ ?_)|(first|(first|refine gF ?_ ?_|refine gT ?_ ?_|refine cI ?_ ?_|refine pI ?_ ?_)<;>intro h|(refine dI ?_;have h:=trivial))<;>simp only[h,d1,hi,d2,Af,A7,Bv,Bf,seval]))
    exact stop (by rw[pr,if_neg hm,Bq (by clear w1;omega)])
variable {γ:List (Nat×AV)}
theorem nR:Ak Tp 189:=⟨_,Tryz.func189,by kernel_rfl,by kernel_rfl⟩
theorem kB:Ak Tp 190:=⟨_,Tryz.func190,by kernel_rfl,by kernel_rfl⟩
theorem aD:Ak Tp 191:=⟨_,Tryz.func191,by kernel_rfl,by kernel_rfl⟩
theorem oB:Ak Tp 195:=⟨_,Tryz.func195,by kernel_rfl,by kernel_rfl⟩
theorem nI:Ak Tp 246:=⟨_,Tryz.func246,by kernel_rfl,by kernel_rfl⟩
theorem c117:Ak Tp 117:=⟨_,Tryz.func117,by kernel_rfl,by kernel_rfl⟩
structure bQ(γ:List (Nat×AV))(sB:Tk→Bool)(all ts:List Tk)(from_:Nat):Prop where
 pre:ts<+:all
 yes:∀ (p:Nat) (t:Tk),from_≤p→ts[p]?=some t→sB t=true
 no:∀ t,all[ts.length]?=some t→sB t=false
 ev:∀ t∈all,Ev Tp γ 246 [.agg t.cells] (.v (.bool (sB t)))
 small:all.length<4611686018427387904
def RT(h:List Aa)(i:Nat)(L:AV)(p:Nat)(bd:Int):Prop:=h[i]?=some ⟨0,109,[L,.v (.int .i64 p),.v (.int .i64 bd)]⟩
theorem RT.lt{h:List Aa}{i:Nat}{L:AV}{p:Nat}{bd:Int}(a:RT h i L p bd):i<h.length:=(Bs.1 a).1
def Zx:Tk:=⟨0,[],0,0,0,0⟩
def FQ(ts:List Tk)(p:Nat):Tk:=(ts[p]?).getD Zx
abbrev BR:Nat→Prop:=fun _=>False
theorem RT.fr{h h1:List Aa}{i:Nat}{L:AV}{p:Nat}{bd:Int}(a:RT h i L p bd)(f:Fr BR h h1):RT h1 i L p bd:=f.at a fun h=>h
variable {sB:Tk→Bool} {all ts:List Tk} {from_:Nat} {L:AV}
theorem VK(hL:EV L all)(hS:bQ γ sB all ts from_){h:List Aa}{i p:Nat}{bd:Int}(hf:from_≤p)(hp:p≤ts.length)(hr:RT h i L p bd):
  Ck Tp γ 189 [.ptr i 0 0] h fun o h'=>o=.ret (.tup [.agg (FQ ts p).cells,.v (.bool (decide (p<ts.length)))])∧Fr BR h h':=by
 have hi:h[i]?=_:=hr;have g1:∀ l,(h++l)[i]?=some ⟨0,109,[L,.v (.int .i64 p),.v (.int .i64 bd)]⟩:=fun l=>(Ba hr.lt).trans hi
 have s1:∀ x,(h++[x])[h.length]?=some x:=fun x=>by simp
 have s2:∀ x y,(h++[x]).set h.length y=h++[y]:=fun x y=>by simp
 have hpre:=hS.pre.length_le;refine Ck.of Tryz.func189 rfl ?_
 rcases hL with⟨rfl,rfl⟩|⟨b,m,cs,rfl,hcs⟩
 ·have e0:ts=[]:=List.prefix_nil.1 hS.pre;subst e0;have hp0:p=0:=Nat.le_zero.1 hp;subst hp0;have d0:decide ((0:Int)≤((0:Nat):Int))=true:=by decide
  simp only[Tryz.f189,Dt,Af,seval];refine dI ?_;simp only[Dt,g1,s1,s2,Af,A7,seval];exact⟨rfl,Fr.app _ _⟩
 ·by_cases hlt:p<all.length
  ·have d1:decide ((all.length:Int)≤(p:Int))=false:=decide_eq_false (by omega);obtain⟨t,ht⟩:∃ t,all[p]?=some t:=⟨all[p],by simp[hlt]⟩;have h6:=EV.take hcs ht;have h6l:6≤(cs.drop (p * 6)).length:=by have:=EV.len hcs hlt;rw[Bd];omega
   have hev:=hS.ev t (List.mem_of_getElem? ht);have htree:A0 [AV.agg t.cells]=true:=rfl
   by_cases hlt2:p<ts.length
   ·have e2:ts[p]?=some t:=by
     obtain⟨r,hr2⟩:=hS.pre;rw[←ht,←hr2,Ba hlt2]
    have e3:FQ ts p=t:=by unfold FQ;rw[e2];rfl
    have e4:decide (p<ts.length)=true:=decide_eq_true hlt2;have e5:=hS.yes p t hf e2;rw[e3,e4];simp only[Tryz.f189,Dt,Af,seval];refine dI ?_;simp only[Dt,g1,d1,h6,h6l,Af,A7,seval];refine⟨hlt,Ag.intro nI htree hev ?_⟩;simp only[e5,Af,Bv,seval];refine dI ?_;simp only[Dt,g1,h6,h6l,s1,s2,Tk.cells,Af,A7,seval];exact⟨hlt,Fr.app _ _⟩
   ·have e1:p=ts.length:=by omega
    have e2:ts[p]?=none:=Bq (by omega);have e3:FQ ts p=Zx:=by unfold FQ;rw[e2];rfl
    have e4:decide (p<ts.length)=false:=decide_eq_false hlt2;have e5:=hS.no t (by rw[←e1];exact ht);rw[e3,e4];simp only[Tryz.f189,Dt,Af,seval];refine dI ?_;simp only[Dt,g1,d1,h6,h6l,Af,A7,seval];refine⟨hlt,Ag.intro nI htree hev ?_⟩;simp only[Dt,e5,s1,s2,Af,Bf,seval];exact⟨rfl,Fr.app _ _⟩
  ·have d1:decide ((all.length:Int)≤(p:Int))=true:=decide_eq_true (by omega);have e2:ts[p]?=none:=Bq (by omega);have e3:FQ ts p=Zx:=by unfold FQ;rw[e2];rfl
   have e4:decide (p<ts.length)=false:=decide_eq_false (by omega);rw[e3,e4];simp only[Tryz.f189,Dt,Af,seval];refine dI ?_;simp only[Dt,g1,d1,s1,s2,Af,A7,seval];exact⟨rfl,Fr.app _ _⟩
theorem Zq{ts:List Tk}{p:Nat}{c:UInt8}{s:List UInt8}:(decide (p<ts.length)&&((FQ ts p).kind==5&&((FQ ts p).text==c::s)))=(Cv ts p==c::s):=by
 unfold Cv FQ
 by_cases hlt:p<ts.length
 ·have ht:ts[p]?=some ts[p]:=by simp[hlt]
  rw[ht];simp only[hlt,decide_true,Bool.true_and,Option.getD_some]
  by_cases hk:ts[p].kind=5
  ·simp[hk]
  ·simp[hk]
 ·rw[Bq (by omega)];simp[hlt]
theorem jC(hL:EV L all)(hS:bQ γ sB all ts from_){h:List Aa}{i p:Nat}{bd:Int}(hf:from_≤p)(hp:p≤ts.length)(hr:RT h i L p bd)(c:UInt8)(s:List UInt8):
  Ck Tp γ 195 [.ptr i 0 0,.v (.string ⟨(c::s).toArray⟩)] h fun o h'=>o=.ret (.v (.bool (Cv ts p==c::s)))∧Fr BR h h':=by
 rw[←Zq];refine Ck.of Tryz.func195 rfl ?_;simp only[Tryz.f195,Af,seval];refine Ao.intro nR _ (VK hL hS hf hp hr) (fun r h1 hh=>?_) (fun v h' hh=>by cases hh.1);obtain⟨e,f1⟩:=hh;cases e;have s1:∀ x,(h1++[x])[h1.length]?=some x:=fun x=>by simp
 have s2:∀ x y,(h1++[x]).set h1.length y=h1++[y]:=fun x y=>by simp
 have ff:∀ l,Fr BR h (h1++l):=fun l=>f1.trans (S1:=BR) (Fr.app h1 l) fun k hk=>False.elim hk
 generalize FQ ts p=t;generalize decide (p<ts.length)=z;simp only[Dt,s1,s2,Tk.cells,Af,seval];cases z with
 |false=>
  simp only[Af,seval];exact⟨rfl,ff _⟩
 |true=>
  simp only[Dt,s1,Af,A7,seval]
  by_cases hk:t.kind=5
  ·have d2:(t.kind==5)=true:=by simpa using hk
   simp only[Dt,s1,d2,Af,A7,seval];exact ff _
  ·have d2:(t.kind==5)=false:=by simpa using hk
   simp only[d2,Af,seval];exact⟨rfl,ff _⟩
theorem U8{h:List Aa}{i p:Nat}(hr:RT h i L p (-1)):Ck Tp γ 190 [.ptr i 0 0] h fun o h'=>o=.ret (.v (.pointer none))∧h'=h.set i ⟨0,109,[L,.v (.int .i64 p),.v (.int .i64 p)]⟩:=by
 have hi:h[i]?=_:=hr;have d0:decide ((-1:Int)<0)=true:=rfl;refine Ck.of Tryz.func190 rfl ?_;simp only[Tryz.f190,Dt,hi,Af,A7,seval]
def nV(ts:List Tk)(L:AV)(i p:Nat)(s:List UInt8)(h:List Aa)(o:Out)(h':List Aa):Prop:=
 Fr (fun k=>k=i) h h'∧if Cv ts p=s then o=.ret (.v (.bool true))∧RT h' i L (p+1) (-1)else o=.ret (.v (.bool false))∧RT h' i L p p
theorem KY(hL:EV L all)(hS:bQ γ sB all ts from_){h:List Aa}{i p:Nat}(hf:from_≤p)(hp:p≤ts.length)(hr:RT h i L p (-1))(c:UInt8)(s:List UInt8):
  Ck Tp γ 191 [.ptr i 0 0,.v (.string ⟨(c::s).toArray⟩)] h (nV ts L i p (c::s) h):=by
 have hpre:=hS.pre.length_le;have w1:IntKind.i64.wrap ((p:Int)+1)=((p+1:Nat):Int):=bR (BM hp hpre) hS.small;refine Ck.of Tryz.func191 rfl ?_;simp only[Tryz.f191,Af,seval];refine Ao.intro oB _ (jC hL hS hf hp hr c s) (fun r h1 hh=>?_) (fun v h' hh=>by cases hh.1);obtain⟨e,f1⟩:=hh;cases e;have hr1:h1[i]?=_:=hr.fr f1;have hlt:i<h1.length:=(Bs.1 hr1).1;have fs:∀ b,Fr (fun k=>k=i) h (h1.set i b):=fun b=>(f1.mono (fun k hk=>False.elim hk)).trans (Fr.set (S:=fun k=>k=i) b rfl) fun k hk=>.inl hk
 by_cases hm:Cv ts p=c::s
 ·have d1:(Cv ts p==c::s)=true:=by simpa using hm
  simp only[Dt,d1,hr1,w1,Af,A7,Bv,seval];refine⟨fs _,?_⟩;rw[if_pos hm];exact⟨rfl,Be hlt⟩
 ·have d1:(Cv ts p==c::s)=false:=by simpa using hm
  simp only[d1,Af,Bf,seval];refine Ao.intro kB _ (U8 (hr.fr f1)) (fun r h2 hh=>?_) (fun v h' hh=>by cases hh.1);obtain⟨e,rfl⟩:=hh;cases e;simp only[Af,seval];refine⟨fs _,?_⟩;rw[if_neg hm];exact⟨rfl,Be hlt⟩
theorem Xr{n j:Nat}{x:List UInt8×Int}(h:(opsL n)[j]?=some x):∃ c s,x.1=c::s:=by
 have hm:=List.mem_of_getElem? h
 have hn:n=1∨n=2∨n=3∨n=4∨n=5∨n=6∨opsL n=[]:=by
  match n with
  |0=>exact .inr (.inr (.inr (.inr (.inr (.inr rfl)))))
  |1|2|3|4|5|6=>simp
  |n+7=>exact .inr (.inr (.inr (.inr (.inr (.inr rfl)))))
 rcases hn with rfl|rfl|rfl|rfl|rfl|rfl|e
 ·simp only[opsL,BI,List.not_mem_nil,or_false]at hm;subst hm;exact⟨_,_,rfl⟩
 ·simp only[opsL,BI,List.not_mem_nil,or_false]at hm;subst hm;exact⟨_,_,rfl⟩
 ·simp only[opsL,BI,List.not_mem_nil,or_false]at hm;rcases hm with rfl|rfl|rfl|rfl|rfl|rfl<;>exact⟨_,_,rfl⟩
 ·simp only[opsL,BI,List.not_mem_nil,or_false]at hm;rcases hm with rfl|rfl<;>exact⟨_,_,rfl⟩
 ·simp only[opsL,BI,List.not_mem_nil,or_false]at hm;rcases hm with rfl|rfl|rfl<;>exact⟨_,_,rfl⟩
 ·simp only[opsL,BI,List.not_mem_nil,or_false]at hm;rcases hm with rfl|rfl<;>exact⟨_,_,rfl⟩
 ·rw[e]at hm;cases hm
theorem Ug(n:Nat):(opsL n).length≤6:=by
 match n with
 |0=>decide
 |1|2|3|4|5|6=>decide
 |n+7=>exact BN _
def kA(γ:List (Nat×AV))(i n:Nat)(x:Nat×List Aa):St:=⟨⟨31,[(0,.ptr i 0 0),(5,Yf (opsL n)),(6,cH (opsL n)),(7,.v (.int .i64 (x.1:Int)))],γ⟩,x.2⟩
def oneI(h:List Aa)(s:List UInt8)(n:Nat)(x:Nat×List Aa):Prop:=x.1≤(opsL n).length∧Vn (opsL n) s=Vn ((opsL n).drop x.1) s∧Fr BR h x.2
theorem YY(hL:EV L all)(hS:bQ γ sB all ts from_){h:List Aa}{i p:Nat}{bd:Int}(hf:from_≤p)(hp:p≤ts.length)(hr:RT h i L p bd){n:Nat}(h1:1≤n)(h6:n≤6):
  Ck Tp γ 117 [.ptr i 0 0,.v (.int .i64 (n:Int))] h fun o h'=>o=.ret (.v (.int .i64 (Vn (opsL n) (Cv ts p))))∧Fr BR h h':=by
 refine Ck.of Tryz.func117 rfl ?_;simp only[Tryz.f117,Af,seval];refine Ao.pure (Ag.intro c194 rfl (La n h1 h6) ?_);simp only[Af,seval];refine Cp.intro (kA γ i n) (oneI h (Cv ts p) n) (fun x=>(opsL n).length-x.1) (0,h) ?_ ⟨BN _,rfl,Fr.refl _ _⟩ (fun x hx=>?_)
 ·exact⟨rfl,rfl,⟨rfl,rfl,rfl,rfl,trivial⟩,rfl⟩
 ·obtain⟨j,h2⟩:=x;obtain⟨hj1,hj2,f2⟩:=hx;simp only at hj1 hj2 f2;have hsm:=Ug n
  by_cases hlt:j<(opsL n).length
  ·have d1:decide (j<(opsL n).length)=true:=decide_eq_true hlt;obtain⟨x,hx⟩:∃ x,(opsL n)[j]?=some x:=⟨(opsL n)[j],by simp[hlt]⟩;have t1:=ZD hx;have t2:=Um hx;obtain⟨c,s,hcs⟩:=Xr hx;rw[hcs]at t1;have w1:IntKind.i64.wrap ((j:Int)+1)=((j+1:Nat):Int):=(A4 (by omega) (by omega)).trans (by omega);rw[T8 hx,hcs]at hj2;simp only[kA,Yf,cH,Dt,d1,t1,Af,A7,seval];refine⟨hlt,Ao.intro oB _ (jC hL hS hf hp (hr.fr f2) c s) (fun r h3 hh=>?_) (fun v h' hh=>by cases hh.1)⟩;obtain⟨e,f3⟩:=hh;cases e;have f13:Fr BR h h3:=f2.trans f3 fun k hk=>False.elim hk
   by_cases hm:Cv ts p=c::s
   ·have d2:(Cv ts p==c::s)=true:=by simpa using hm
    rw[if_pos hm.symm]at hj2;rw[hj2];simp only[Dt,d2,t2,Af,A7,seval];exact⟨hlt,f13⟩
   ·have d2:(Cv ts p==c::s)=false:=by simpa using hm
    rw[if_neg (Ne.symm hm)]at hj2;simp only[d2,w1,Af,seval];exact AF.intro (j+1,h3) ⟨hlt,hj2,f13⟩ ⟨rfl,rfl,⟨rfl,rfl,rfl,rfl,trivial⟩,rfl⟩ (by show (opsL n).length-(j+1)<(opsL n).length-j;clear w1;omega)
  ·have d1:decide (j<(opsL n).length)=false:=decide_eq_false hlt;have e:Vn (opsL n) (Cv ts p)=0:=by rw[hj2,List.drop_eq_nil_of_le (by omega)];rfl
   rw[e];simp only[kA,Yf,cH,Dt,d1,Af,seval];exact f2
def AD(lo hi:Nat)(h:List Aa):AV→Tr→Prop
 |.ptr q 0 0,.lf k nm vk vi vr vt=>lo≤q∧q<hi∧h[q]?=some ⟨0,190,[.v (.int .i64 k),.v (.string ⟨nm.toArray⟩),.v (.int .i64 vk),.v (.int .i64 vi),.v (.float .f64 vr),.v (.complex .f64 0 0),.v (.string ⟨vt.toArray⟩),.v (.slice none 0 0)]⟩
 |.ptr q 0 0,.un k a=>lo≤q∧q<hi∧∃ j ver x,lo≤j∧j<hi∧h[q]?=some ⟨0,190,[.v (.int .i64 k),.v (.string ⟨#[]⟩),.v (.int .i64 0),.v (.int .i64 0),.v (.float .f64 0),.v (.complex .f64 0 0),.v (.string ⟨#[]⟩),.own j ver 1]⟩∧h[j]?=some ⟨ver,110,[x]⟩∧AD lo hi h x a
 |.ptr q 0 0,.bi k a b=>lo≤q∧q<hi∧∃ j ver x y,lo≤j∧j<hi∧h[q]?=some ⟨0,190,[.v (.int .i64 k),.v (.string ⟨#[]⟩),.v (.int .i64 0),.v (.int .i64 0),.v (.float .f64 0),.v (.complex .f64 0 0),.v (.string ⟨#[]⟩),.own j ver 2]⟩∧h[j]?=some ⟨ver,110,[x,y]⟩∧AD lo hi h x a∧AD lo hi h y b
 |_,_=>False
theorem AD.ptr{lo hi:Nat}{h:List Aa}{x:AV}{t:Tr}(a:AD lo hi h x t):∃ q,x=.ptr q 0 0:=by
 cases t<;>unfold AD at a<;>split at a<;>first|exact⟨_,rfl⟩|exact a.elim|(rename_i e;cases e;done)|skip
 all_goals first|exact⟨_,rfl⟩|trace_state
theorem AD.blk{lo hi:Nat}{h:List Aa}{q:Nat}{t:Tr}(a:AD lo hi h (.ptr q 0 0) t):∃ b:List AV,h[q]?=some ⟨0,190,b⟩:=by
 cases t with
 |lf k nm vk vi vr vt=>exact⟨_,a.2.2⟩
 |un k a'=>obtain⟨_,_,j,ver,y,_,_,h1,_⟩:=a;exact⟨_,h1⟩
 |bi k a' b'=>obtain⟨_,_,j,ver,y,z,_,_,h1,_⟩:=a;exact⟨_,h1⟩
theorem AD.fr{S:Nat→Prop}{lo hi lo' hi':Nat}{h h':List Aa}(f:Fr S h h')(hl:lo'≤lo)(hh:hi≤hi')(hS:∀ (k:Nat) (b:Aa),S k→h[k]?=some b→(b.e≠190∧b.e≠110)∨k<lo∨hi≤k):∀ (t:Tr) (x:AV),AD lo hi h x t→AD lo' hi' h' x t:=by
 have keep:∀ (k:Nat) (b:Aa),h[k]?=some b→(b.e=190∨b.e=110)→lo≤k→k<hi→h'[k]?=some b:=fun k b hk hb h1 h2=>f.at hk fun hs=>(hS k b hs hk).elim (fun hn=>hb.elim hn.1 hn.2) fun e=>by omega
 intro t
 induction t with
 |lf k nm vk vi vr vt=>
  intro x a;obtain⟨q,rfl⟩:=a.ptr;obtain⟨h1,h2,h3⟩:=a;exact⟨by omega,by omega,keep q _ h3 (.inl rfl) h1 h2⟩
 |un k a ih=>
  intro x hx;obtain⟨q,rfl⟩:=hx.ptr;obtain⟨l1,l2,j,ver,y,l3,l4,h1,h2,h3⟩:=hx;exact⟨by omega,by omega,j,ver,y,by omega,by omega,keep q _ h1 (.inl rfl) l1 l2,keep j _ h2 (.inr rfl) l3 l4,ih y h3⟩
 |bi k a b iha ihb=>
  intro x hx;obtain⟨q,rfl⟩:=hx.ptr;obtain⟨l1,l2,j,ver,y,z,l3,l4,h1,h2,h3,h4⟩:=hx;exact⟨by omega,by omega,j,ver,y,z,by omega,by omega,keep q _ h1 (.inl rfl) l1 l2,keep j _ h2 (.inr rfl) l3 l4,iha y h3,ihb z h4⟩
theorem Ap(h:List Aa)(x:Aa)(l:List Aa):(h++x::l)[h.length]?=some x:=by simp
theorem B1(h:List Aa)(x y:Aa)(l:List Aa):(h++x::y::l)[h.length+1]?=some y:=by simp
theorem RT.app{h:List Aa}{i:Nat}{L:AV}{p:Nat}{bd:Int}(a:RT h i L p bd)(l:List Aa):RT (h++l) i L p bd:=(Ba a.lt).trans a
abbrev AU(i:Nat):Nat→Prop:=fun k=>k=i
theorem AD.fr1{lo hi lo' hi':Nat}{h h':List Aa}{i:Nat}{L:AV}{p:Nat}{bd:Int}(hr:RT h i L p bd)(f:Fr (AU i) h h')(hl:lo'≤lo)(hh:hi≤hi'){t:Tr}{x:AV}(a:AD lo hi h x t):AD lo' hi' h' x t:=
 AD.fr f hl hh (fun k b hk hb=>by have hk:k=i:=hk;subst hk;have hr:h[k]?=_:=hr;rw[hr]at hb;cases hb;exact .inl ⟨by show (109:Nat)≠190;decide,by show (109:Nat)≠110;decide⟩) t x a
theorem AD.app{lo hi lo' hi':Nat}{h:List Aa}{t:Tr}{x:AV}(a:AD lo hi h x t)(l:List Aa)(hl:lo'≤lo)(hh:hi≤hi'):AD lo' hi' (h++l) x t:=AD.fr (Fr.app (S:=BR) h l) hl hh (fun k b hk=>False.elim hk) t x a
def RY(L:AV)(i:Nat)(h:List Aa)(r:Z5)(o:Out)(h':List Aa):Prop:=
 Fr (AU i) h h'∧match r with
 |.ok t q=>∃ x,o=.ret x∧AD h.length h'.length h' x t∧RT h' i L q (-1)
 |.bad q=>o=.ret (.v (.pointer none))∧∃ p',RT h' i L p' q
theorem RY.pan{L:AV}{i:Nat}{h h':List Aa}{r:Z5}{v:AV}(a:RY L i h r (.pan v) h'):False:=by
 obtain⟨_,a⟩:=a;cases r with
 |ok t q=>obtain⟨x,e,_⟩:=a;cases e
 |bad q=>cases a.1
def H8(γ:List (Nat×AV))(ts:List Tk)(from_:Nat)(L:AV)(f:Nat)(g:FuncId)(xs:List AV)(m:Md):Prop:=
 ∀ (h:List Aa) (i p:Nat),from_≤p→p≤ts.length→m.need ts p≤f→RT h i L p (-1)→Ck Tp γ g (.ptr i 0 0::xs) h (RY L i h (pr ts f m p))
structure RE(γ:List (Nat×AV))(ts:List Tk)(from_:Nat)(L:AV)(f:Nat):Prop where
 bin:∀ n:Nat,1≤n→n≤6→H8 γ ts from_ L f 62 [.v (.int .i64 (n:Int))] (.bin n)
 un:H8 γ ts from_ L f 62 [.v (.int .i64 6)] .un
 fs:H8 γ ts from_ L f 62 [.v (.int .i64 7)] .fs
theorem iL:Ak Tp 62:=⟨_,Tryz.func62,by kernel_rfl,by kernel_rfl⟩
theorem c116:Ak Tp 116:=⟨_,Tryz.func116,by kernel_rfl,by kernel_rfl⟩
theorem k9{f:Nat}(H:H8 γ ts from_ L f 116 [] .fs):H8 γ ts from_ L f 62 [.v (.int .i64 7)] .fs:=by
 intro h i p hf hp hn hr;refine Ck.of Tryz.func62 rfl ?_;simp only[Tryz.f62,Af,seval];refine Ao.intro c116 _ (H h i p hf hp hn hr) (fun r h1 hh=>?_) (fun v h' hh=>hh.pan.elim);simp only[Af,seval];exact hh
theorem k8(hL:EV L all)(hS:bQ γ sB all ts from_){f:Nat}(H:RE γ ts from_ L f):H8 γ ts from_ L (f+1) 62 [.v (.int .i64 6)] .un:=by
 intro h i p hf hp hn hr;have hpre:=hS.pre.length_le;refine Ck.of Tryz.func62 rfl ?_;simp only[Tryz.f62,Int.reduceBEq,Af,seval];refine Ao.intro c117 _ (YY hL hS hf hp hr (n:=6) (by decide) (by decide)) (fun r h1 hh=>?_) (fun v h' hh=>by cases hh.1);obtain⟨e,f1⟩:=hh;cases e;have r1:=hr.fr f1;have hr1:h1[i]?=_:=r1;have F1:Fr (AU i) h h1:=f1.mono fun k hk=>False.elim hk
 rw[gE]
 by_cases hm:Cv ts p=[45]∨Cv ts p=[33]
 ·have hlt:p<ts.length:=hm.elim CW CW;have w1:IntKind.i64.wrap ((p:Int)+1)=((p+1:Nat):Int):=bR (BM hp hpre) hS.small
  obtain⟨k,hk,hk0⟩:∃ k:Int,(if Cv ts p=[45]then (3:Int)else if Cv ts p=[33]then 4 else 0)=k∧k=(if Cv ts p=[45]then 3 else 4)∧k≠0:=by
   by_cases h45:Cv ts p=[45]
   ·exact⟨3,by rw[if_pos h45],by rw[if_pos h45],by decide⟩
   ·exact⟨4,by rw[if_neg h45,if_pos (hm.resolve_left h45)],by rw[if_neg h45],by decide⟩
  obtain⟨hk1,hk0⟩:=hk0;rw[hk];have d1:(k==0)=false:=by simpa using hk0
  have hn2:Md.need ts (p+1) .un≤f:=by clear w1;simp only[Md.need]at hn⊢;omega
  have r2:RT (h1.set i ⟨0,109,[L,.v (.int .i64 ((p+1:Nat):Int)),.v (.int .i64 (-1))]⟩) i L (p+1) (-1):=Be r1.lt;simp only[Dt,d1,hr1,w1,Af,A7,seval];refine Ao.intro iL _ (H.un _ i (p+1) (by clear w1;omega) hlt hn2 r2) (fun r h3 hh=>?_) (fun v h' hh=>hh.pan.elim);obtain⟨f3,hh⟩:=hh;have F3:Fr (AU i) h h3:=(F1.trans (Fr.set (S:=AU i) _ rfl) fun k hk=>.inl hk).trans f3 fun k hk=>.inl hk
  cases e:pr ts f .un (p+1)with
  |bad q=>
   rw[e]at hh;obtain⟨er,p',r3⟩:=hh;cases er;have epr:pr ts (f+1) .un p=.bad q:=by rw[pr,if_pos hm,e]
   rw[epr];simp only[Dt,Af,seval];exact⟨F3,rfl,p',r3⟩
  |ok a q=>
   rw[e]at hh;obtain⟨x,er,hT,r3⟩:=hh;cases er;obtain⟨qx,rfl⟩:=hT.ptr;have epr:pr ts (f+1) .un p=.ok (.un k a) q:=by rw[pr,if_pos hm,e,hk1]
   rw[epr];obtain⟨bx,hbx⟩:=AD.blk hT;simp only[Dt,hbx,Bo,Af,seval];exact⟨F3.trans (Fr.app (S:=BR) h3 _) (fun k hk=>False.elim hk),_,rfl,⟨by have:=F3.1;omega,by simp,h3.length,0,.ptr qx 0 0,F3.1,by simp,B1 ..,Ap ..,hT.app _ (by have:=F1.1;simp;omega) (by simp)⟩,r3.app _⟩
 ·have epr:pr ts (f+1) .un p=pr ts f .fs p:=by rw[pr,if_neg hm]
  have e0:(if Cv ts p=[45]then (3:Int)else if Cv ts p=[33]then 4 else 0)=0:=by rw[if_neg (fun e=>hm (.inl e)),if_neg (fun e=>hm (.inr e))]
  have hn2:Md.need ts p .fs≤f:=by simp only[Md.need]at hn⊢;omega
  rw[e0,epr];simp only[Af,seval];refine Ao.intro iL _ (H.fs _ i p hf hp hn2 r1) (fun r h3 hh=>?_) (fun v h' hh=>hh.pan.elim);simp only[Af,seval];refine⟨F1.trans hh.1 fun k hk=>.inl hk,?_⟩;have hh2:=hh.2;cases e:pr ts f .fs p with
  |bad q=>rw[e]at hh2;exact hh2
  |ok a q=>
   rw[e]at hh2;obtain⟨x,er,hT,r3⟩:=hh2;exact⟨x,er,AD.fr (Fr.refl BR _) F1.1 (BL _) (fun k b hk=>False.elim hk) _ _ hT,r3⟩
structure LrI where
 x:AV
 o:Option Tr
 q:Nat
 h:List Aa
 g:Nat
def lrS(γ:List (Nat×AV))(i n:Nat)(y:LrI):St:=⟨⟨72,[(0,.ptr i 0 0),(1,.v (.int .i64 (n:Int))),(7,y.x)],γ⟩,y.h⟩
def lrI(ts:List Tk)(L:AV)(h:List Aa)(i n p:Nat)(f:Nat)(y:LrI):Prop:=
 Fr (AU i) h y.h∧match y.o with
 |some a=>p<y.q∧y.q≤ts.length∧AD h.length y.h.length y.h y.x a∧RT y.h i L y.q (-1)∧pr ts f (.bin n) p=pr ts y.g (.lp n a) y.q∧(Md.lp n a).need ts y.q≤y.g∧y.g+1≤f
 |none=>y.x=.v (.pointer none)∧pr ts f (.bin n) p=.bad y.q∧∃ p',RT y.h i L p' y.q
theorem cN(hL:EV L all)(hS:bQ γ sB all ts from_){f:Nat}(H:∀ g≤f,RE γ ts from_ L g){n:Nat}(hn1:1≤n)(hn6:n≤6):H8 γ ts from_ L (f+1) 62 [.v (.int .i64 (n:Int))] (.bin n):=by
 intro h i p hf hp hn hr;have hpre:=hS.pre.length_le
 by_cases h6:n=6
 ·subst h6;have epr:pr ts (f+1) (.bin 6) p=pr ts f .un p:=by rw[pr,if_pos (by decide)]
  have hn2:Md.need ts p .un≤f:=by simp only[Md.need]at hn⊢;omega
  rw[epr];exact (H f (BL _)).un h i p hf hp hn2 hr
 ·have d7:((n:Int)==7)=false:=by simp only[beq_eq_false_iff_ne,ne_eq];omega
  have d6:((n:Int)==6)=false:=by simp only[beq_eq_false_iff_ne,ne_eq];omega
  have w1:IntKind.i64.wrap ((n:Int)+1)=((n+1:Nat):Int):=(A4 (by omega) (by omega)).trans (by omega);have hn2:Md.need ts p (.bin (n+1))≤f:=by clear w1;simp only[Md.need]at hn⊢;omega
  have hc:=(H f (BL _)).bin (n+1) (by clear w1;omega) (by clear w1;omega) h i p hf hp hn2 hr
  have epr:pr ts (f+1) (.bin n) p=match pr ts f (.bin (n+1)) p with
   |.bad q=>.bad q
   |.ok a q=>pr ts f (.lp n a) q:=by rw[pr,if_neg (by clear w1;omega)]<;>cases pr ts f (.bin (n+1)) p<;>rfl
  refine Ck.of Tryz.func62 rfl ?_;simp only[Tryz.f62,d7,d6,w1,Af,seval];refine Ao.intro iL _ hc (fun r h1 hh=>?_) (fun v h2 hh=>hh.pan.elim);simp only[Af,seval]
  obtain⟨y0,hy0,hx0⟩:∃ y:LrI,lrI ts L h i n p (f+1) y∧r=y.x∧h1=y.h:=by
   obtain⟨f1,hh⟩:=hh;cases e:pr ts f (.bin (n+1)) p with
   |bad q=>
    rw[e]at hh epr;obtain⟨er,p',r1⟩:=hh;cases er;exact⟨⟨_,none,q,h1,f⟩,⟨f1,rfl,epr,p',r1⟩,rfl,rfl⟩
   |ok a q=>
    rw[e]at hh epr;obtain⟨x,er,hT,r1⟩:=hh;cases er;obtain⟨⟨g1,g2⟩,g3⟩:=Eo ts f (.bin (n+1)) p a q hp e;exact⟨⟨_,some a,q,h1,f⟩,⟨f1,g1,g3,hT,r1,epr,by clear w1;simp only[Md.need]at hn⊢;omega,BL _⟩,rfl,rfl⟩
  obtain⟨er,eh⟩:=hx0;subst er;subst eh;refine Cp.intro (lrS γ i n) (lrI ts L h i n p (f+1)) (fun y=>match y.o with|some _=>ts.length+1-y.q|none=>0) y0 ?_ hy0 (fun y hy=>?_)
  ·exact⟨rfl,rfl,⟨rfl,rfl,rfl,trivial⟩,rfl⟩
  clear hy0 hh epr hc hn2;obtain⟨x,o,q,h1,g⟩:=y;obtain⟨f1,hy⟩:=hy;cases o with
  |none=>
   obtain⟨ex,epr,p',r1⟩:=hy;simp only at ex epr r1 f1;subst ex;rw[epr];simp only[lrS,Dt,Af,seval];exact⟨f1,rfl,p',r1⟩
  |some a=>
   obtain⟨x1,x2,hT,r1,epr,hneed,hg⟩:=hy;simp only at x1 x2 hT r1 epr hneed hg f1;obtain⟨qx,rfl⟩:=hT.ptr;obtain⟨bx,hbx⟩:=AD.blk hT;obtain⟨g,rfl⟩:∃ g',g=g'+1:=⟨g-1,by clear w1;simp only[Md.need]at hneed;omega⟩;simp only[lrS,Dt,hbx,Af,seval];refine Ao.intro c117 _ (YY hL hS (by clear w1;omega) x2 r1 hn1 hn6) (fun r h2 hh=>?_) (fun v h' hh=>by cases hh.1);obtain⟨e,f2⟩:=hh;cases e;rw[dU _ n hn1 (by clear w1;omega)];have r2:=r1.fr f2;have hr2:h2[i]?=_:=r2;have F2:Fr (AU i) h h2:=f1.trans (f2.mono (S1:=AU i) fun k hk=>False.elim hk) fun k hk=>.inl hk
   have hT2:AD h.length h2.length h2 (.ptr qx 0 0) a:=AD.fr f2 (BL _) f2.1 (fun k b hk=>False.elim hk) _ _ hT
   by_cases hl:Fg (Fw (Cv ts q))=n
   ·have hk0:Fw (Cv ts q)≠0:=fun e=>by rw[e]at hl;have:Fg 0=7:=rfl;clear w1;omega
    have d2:(Fw (Cv ts q)==0)=false:=by simpa using hk0
    have hlt:q<ts.length:=Qf hk0;have w2:IntKind.i64.wrap ((q:Int)+1)=((q+1:Nat):Int):=bR (BM x2 hpre) hS.small;have hstop:¬(Fw (Cv ts q)=0∨Fg (Fw (Cv ts q))≠n):=fun h=>h.elim hk0 fun h=>h hl
    have epr2:pr ts (g+1) (.lp n a) q=match pr ts g (.bin (n+1)) (q+1)with
     |.bad q=>.bad q
     |.ok b q'=>if n=3 then .ok (.bi (Fw (Cv ts q)) a b) q' else pr ts g (.lp n (.bi (Fw (Cv ts q)) a b)) q':=by rw[pr,if_neg hstop]<;>cases pr ts g (.bin (n+1)) (q+1)<;>rfl
    have hn3:Md.need ts (q+1) (.bin (n+1))≤g:=by clear w1 w2;simp only[Md.need]at hneed⊢;omega
    have r3:RT (h2.set i ⟨0,109,[L,.v (.int .i64 ((q+1:Nat):Int)),.v (.int .i64 (-1))]⟩) i L (q+1) (-1):=Be r2.lt;have hT3:=AD.fr1 r2 (Fr.set (S:=AU i) (⟨0,109,[L,.v (.int .i64 ((q+1:Nat):Int)),.v (.int .i64 (-1))]⟩:Aa) rfl) (BL _) (BL _) hT2;rw[if_pos hl];simp only[Dt,d2,hr2,w1,w2,Af,A7,seval];refine Ao.intro iL _ ((H g (by clear w1 w2;omega)).bin (n+1) (by clear w1 w2;omega) (by clear w1 w2;omega) _ i (q+1) (by clear w1 w2;omega) hlt hn3 r3) (fun r h4 hh=>?_) (fun v h' hh=>hh.pan.elim);obtain⟨f4,hh⟩:=hh;have F4:Fr (AU i) h h4:=(F2.trans (Fr.set (S:=AU i) _ rfl) fun k hk=>.inl hk).trans f4 fun k hk=>.inl hk
    cases e:pr ts g (.bin (n+1)) (q+1)with
    |bad q'=>
     rw[e]at hh epr2;obtain⟨er,p',r4⟩:=hh;cases er;rw[epr,epr2];simp only[Dt,Af,seval];exact⟨F4,rfl,p',r4⟩
    |ok b q'=>
     rw[e]at hh epr2;obtain⟨x',er,hTb,r4⟩:=hh;cases er;obtain⟨qy,rfl⟩:=hTb.ptr;obtain⟨by',hby⟩:=AD.blk hTb;have hTa:AD h.length h4.length h4 _ a:=AD.fr1 r3 f4 (BL _) (by have:=f4.1;simpa using this) hT3;have hl4:h.length≤h4.length:=F4.1;have hl2:h.length≤(h2.set i ⟨0,109,[L,.v (.int .i64 ((q+1:Nat):Int)),.v (.int .i64 (-1))]⟩).length:=by have:=F2.1;simpa using this
     obtain⟨⟨g1,g2⟩,g3⟩:=Eo ts g (.bin (n+1)) (q+1) b q' hlt e;have F5:∀ l,Fr (AU i) h (h4++l):=fun l=>F4.trans (Fr.app (S:=BR) h4 l) fun k hk=>False.elim hk
     simp only[Dt,hby,Bo,Af,seval]
     by_cases h3n:n=3
     ·have d4:((n:Int)==3)=true:=by subst h3n;rfl
      have epr3:pr ts (f+1) (.bin n) p=.ok (.bi (Fw (Cv ts q)) a b) q':=by rw[epr,epr2];exact if_pos h3n
      rw[epr3];simp only[d4,Af,seval];exact⟨F5 _,_,rfl,⟨by omega,by simp,h4.length,0,.ptr qx 0 0,.ptr qy 0 0,hl4,by simp,B1 ..,Ap ..,hTa.app _ (BL _) (by simp),hTb.app _ hl2 (by simp)⟩,r4.app _⟩
     ·have d4:((n:Int)==3)=false:=by simp only[beq_eq_false_iff_ne,ne_eq];clear w1 w2;omega
      simp only[d4,Af];refine AF.intro ⟨.ptr (h4.length+1) 0 0,some (.bi (Fw (Cv ts q)) a b),q',_,g⟩ ⟨F5 _,?_,g3,⟨by omega,by simp,h4.length,0,.ptr qx 0 0,.ptr qy 0 0,hl4,by simp,B1 ..,Ap ..,hTa.app _ (BL _) (by simp),hTb.app _ hl2 (by simp)⟩,r4.app _,?_,?_,?_⟩ ⟨rfl,rfl,⟨rfl,rfl,rfl,trivial⟩,rfl⟩ ?_
      ·show p<q';clear w1 w2;omega
      ·rw[epr,epr2];exact if_neg h3n
      ·clear w1 w2;simp only[Md.need]at hneed⊢;omega
      ·show g+1≤f+1;clear w1 w2;omega
      ·show ts.length+1-q'<ts.length+1-q;clear w1 w2;omega
   ·have epr2:pr ts (g+1) (.lp n a) q=.ok a q:=by rw[pr,if_pos (.inr hl)]
    rw[if_neg hl,epr,epr2];simp only[Af,seval];exact⟨F2,_,rfl,hT2,r2⟩
end Go.Proofs.YtlobiioioicmhaaGreatDoor
