/- A part of the proof. -/
import Derived.Test.YtlobiioioicmhaaGreatDoorBQ4
set_option linter.all false
set_option maxHeartbeats 8000000
namespace Go.Proofs.YtlobiioioicmhaaGreatDoor
open _root_.Array renaming getElem?_eq_some_iff→BP
open _root_.Bool renaming not_true→Bv,not_false→Bf
open _root_.List renaming length_drop→Bd,length_take→Bh,map_cons→BA,mem_cons→BI,drop_drop→BT
open Go.Proofs.Tryz renaming prog→Tp
open Go Go.Ev
theorem partF_esc(l:List UInt8)(p i:Nat)(hi:p+i<l.length)(h:atL l (p+i)=92):partF l (p+i)=escF ((l.drop p).drop i):=by
 have e:∀ j,atL ((l.drop p).drop i) j=atL l (p+i+j):=fun j=>by rw[atL_dropk,atL_dropk];congr 1;omega
 have hlen:((l.drop p).drop i).length=l.length-p-i:=by rw[Bd,Bd]
 have h2:=fun j=>atL_out (l:=l) (i:=j)
 unfold partF escF;rw[e,e,e,hlen,if_neg (by omega),if_neg (by omega)]
 by_cases h1:l.length<p+i+2
 ·rw[if_pos h1];have:=h2 (p+i+1) (by omega);rw[this,if_neg (by omega),if_neg (by omega)]
 ·rw[if_neg h1]
  by_cases h34:atL l (p+i+1)=34
  ·rw[if_pos h34,if_pos (.inl h34),h34]
  ·rw[if_neg h34]
   by_cases h92:atL l (p+i+1)=92
   ·rw[if_pos h92,if_pos (.inr h92),h92]
   ·rw[if_neg h92,if_neg (show ¬(atL l (p+i+1)=34∨atL l (p+i+1)=92)by omega)]
    by_cases hx:atL l (p+i+1)=120∧p+i+4≤l.length∧0≤hexN (atL l (p+i+2))∧0≤hexN (atL l (p+i+3))∧(escV (atL l (p+i+2)) (atL l (p+i+3))<32∨126<escV (atL l (p+i+2)) (atL l (p+i+3)))
    ·rw[if_pos hx,if_pos ⟨hx.1,by omega,hx.2.2⟩]
    ·rw[if_neg hx,if_neg (fun q=>hx ⟨q.1,by omega,q.2.2⟩)]
def textOut(l:List UInt8)(p:Nat)(q:List UInt8×Nat):Option (List UInt8×Nat):=
 if l.length≤q.2∨atL l q.2≠34∨256<q.1.length then none else some (q.1,q.2+1-p)
theorem text_same(l:List UInt8)(p:Nat):∀ (k k' i:Nat) (d:List UInt8),l.length≤k+(p+i)→l.length≤k'+(p+i)→textF k' (l.drop p) i d=textOut l p (partsF k l (p+i) d)
 |0,k',i,d,h1,h2=>by
  have e:textF k' (l.drop p) i d=none:=by
   cases k' with
   |zero=>rfl
   |succ k'=>rw[textF,if_pos (by rw[Bd];omega)]
  rw[e,partsF,textOut,if_pos (.inl (by show l.length≤p+i;omega))]
 |k+1,k',i,d,h1,h2=>by
  by_cases hi:l.length≤p+i
  ·have e:textF k' (l.drop p) i d=none:=by
    cases k' with
    |zero=>rfl
    |succ k'=>rw[textF,if_pos (by rw[Bd];omega)]
   have hp:partF l (p+i)=(0,0):=by unfold partF;rw[if_pos (.inl hi)]
   rw[e,partsF,hp,if_pos rfl,textOut,if_pos (.inl hi)]
  ·cases k' with
   |zero=>omega
   |succ k'=>
    have ea:atL (l.drop p) i=atL l (p+i):=atL_dropk l p i;rw[textF,ea,if_neg (by rw[Bd];omega)]
    by_cases h34:atL l (p+i)=34
    ·have hp:partF l (p+i)=(0,0):=by unfold partF;rw[if_pos (by omega)]
     rw[partsF,hp,if_pos rfl,textOut]
     by_cases hd:d.length≤256
     ·rw[if_pos ⟨h34,hd⟩,if_neg (by show ¬(l.length≤p+i∨atL l (p+i)≠34∨256<d.length);omega)];show some (d,i+1)=some (d,p+i+1-p)
      congr 2;omega
     ·rw[if_neg (by omega),if_neg (by omega),if_pos (.inl h34),if_pos (by show l.length≤p+i∨atL l (p+i)≠34∨256<d.length;omega)]
    ·rw[if_neg (by omega)]
     by_cases h92:atL l (p+i)=92
     ·rw[if_pos h92,partsF,partF_esc l p i (by omega) h92]
      by_cases h0:(escF ((l.drop p).drop i)).2=0
      ·rw[if_pos h0,if_pos h0,textOut,if_pos (.inr (.inl h34))]
      ·rw[if_neg h0,if_neg h0];have:=text_same l p k k' (i+(escF ((l.drop p).drop i)).2) (d++[UInt8.ofNat (escF ((l.drop p).drop i)).1]) (by omega) (by omega);rw[this,Nat.add_assoc]
     ·rw[if_neg h92]
      by_cases hc:atL l (p+i)<32∨126<atL l (p+i)
      ·have hp:partF l (p+i)=(0,0):=by unfold partF;rw[if_pos (by omega)]
       rw[if_pos (by omega),partsF,hp,if_pos rfl,textOut,if_pos (.inr (.inl h34))]
      ·have hp:partF l (p+i)=(atL l (p+i),1):=by unfold partF;rw[if_neg (by omega),if_pos h92]
       rw[if_neg (by omega),partsF,hp,if_neg (by show ¬(1=0);omega)];have:=text_same l p k k' (i+1) (d++[UInt8.ofNat (atL l (p+i))]) (by omega) (by omega);rw[this,Nat.add_assoc]
def resTP(p:Nat):Except Int TokD→AV
 |.ok t=>okTok (t.av p)
 |.error e=>errTok e
theorem refText_av(l:List UInt8)(p:Nat)(hp:p<l.length):refTextR l p (partsF l.length l (p+1) [])=resTP p (textD (l.drop p)):=by
 have h:=text_same l p l.length (l.drop p).length 1 [] (by omega) (by rw[Bd];omega);unfold textD;rw[h];unfold refTextR textOut
 by_cases hc:l.length≤(partsF l.length l (p+1) []).2∨atL l (partsF l.length l (p+1) []).2≠34∨256<(partsF l.length l (p+1) []).1.length
 ·rw[if_pos hc,if_pos hc];rfl
 ·rw[if_neg hc,if_neg hc];rfl
set_option maxRecDepth 20000
variable {γ:List (Nat×AV)}
theorem dE_drop(l:List UInt8)(p i:Nat):digitsEnd (l.drop p) i+p=digitsEnd l (p+i):=by
 unfold digitsEnd;rw[BT]
 omega
theorem lz_out{l:List UInt8}{most:Int}(h:1<l.length∧atL l 0=48):decO l most=false:=by
 unfold decO;exact decide_eq_false (fun q=>q.1 h)
theorem realO_rreal{sg:Nat}(hsg:sg=0∨sg=1){a c:List UInt8}{f:Nat}(ha:¬(1<a.length∧atL a 0=48))(hc:¬(1<c.length∧atL c 0=48))(hf:nameN f=false):realO sg a c f=rrealO sg a c:=by
 rw[Bool.eq_iff_iff,realO_iff,rrealO_iff]
 have h1:decO a 9007199254740991=true↔decV a<9007199254740992:=by
  unfold decO;rw[decide_eq_true_eq]
  constructor
  ·rintro⟨_,_,h⟩;omega
  ·intro h;exact⟨ha,by omega,by omega⟩
 have h2:decO c (1023+51 * sg)=true↔decV c≤1023+51 * sg:=by
  unfold decO;rw[decide_eq_true_eq]
  constructor
  ·rintro⟨_,_,h⟩;omega
  ·intro h;exact⟨hc,by omega,by omega⟩
 rw[h1,h2]
 constructor
 ·rintro⟨a1,a2,a3,a4,_,a6⟩;exact⟨a1,a2,a3,a4,a6⟩
 ·rintro⟨a1,a2,a3,a4,a6⟩;exact⟨a1,a2,a3,a4,hf,a6⟩
theorem refNum_real(l:List UInt8)(p n sg:Nat)(hp:p+n≤l.length)(hn:n=digitsEnd l p-p)(hge:p≤digitsEnd l p)(hs:sg=sgOf (l.drop p))(h112:atL l (p+n)=112)(hd:digitN (atL l (p+n+1+sg))=true):
  endF l (p+n)=(digitsEnd l (p+n+1+sg)-(p+n),sg+1)∧numberD (l.drop p)=realD (l.drop p) n sg∧(sg=0∨sg=1)∧p+n+1+sg<digitsEnd l (p+n+1+sg)∧digitsEnd l (p+n+1+sg)≤l.length:=by
 have hlt:=digitsEnd_lt hd;have hl2:=(digitsEnd_step hd).2;have hle:=digitsEnd_le (l:=l) (i:=p+n+1+sg) (by omega);have hdn:digitsEnd (l.drop p) 0=n:=by have:=dE_drop l p 0;rw[Nat.add_zero]at this;omega
 have hsg:sg=if atL l (p+n+1)=45 then 1 else 0:=by
  rw[hs];unfold sgOf;rw[hdn,atL_dropk,atL_dropk,←Nat.add_assoc]
  by_cases h:atL l (p+n+1)=45
  ·rw[if_pos ⟨h112,h⟩,if_pos h]
  ·rw[if_neg (fun q=>h q.2),if_neg h]
 have hhead:headF l (p+n)=sg+1:=by
  unfold headF;rw[hsg];split<;>rfl
 have hspan:spanN l (p+n+headF l (p+n))=digitsEnd l (p+n+1+sg)-(p+n+1+sg):=by
  unfold spanN;rw[hhead,←digitsEnd_span,show p+n+(sg+1)=p+n+1+sg from by omega]
 refine⟨?_,?_,?_,hlt,hle⟩
 ·unfold endF;rw[if_neg (by omega),if_neg (by rw[hspan];omega),hspan,hhead]
  congr 1;omega
 ·unfold numberD;rw[hdn,←hs,if_pos ⟨by rw[atL_dropk];exact h112,by rw[atL_dropk,←Nat.add_assoc,←Nat.add_assoc];exact hd⟩]
 ·rw[hsg];split
  ·exact .inr rfl
  ·exact .inl rfl
theorem refNum_int(l:List UInt8)(p n sg:Nat)(hp:p+n≤l.length)(hn:n=digitsEnd l p-p)(hge:p≤digitsEnd l p)(hs:sg=sgOf (l.drop p))(h:¬(atL l (p+n)=112∧digitN (atL l (p+n+1+sg))=true)):
  endF l (p+n)=(0,0)∧numberD (l.drop p)=if decO (numL (l.drop p) 0) 9223372036854775807=true∧nameN (atL l (p+n))=false then .ok ⟨2,[],decV (numL (l.drop p) 0),0,n⟩else .error 12:=by
 have hdn:digitsEnd (l.drop p) 0=n:=by have:=dE_drop l p 0;rw[Nat.add_zero]at this;omega
 constructor
 ·unfold endF
  by_cases h112:atL l (p+n)=112
  ·rw[if_neg (by omega)]
   have hsg:sg=if atL l (p+n+1)=45 then 1 else 0:=by
    rw[hs];unfold sgOf;rw[hdn,atL_dropk,atL_dropk,←Nat.add_assoc]
    by_cases h:atL l (p+n+1)=45
    ·rw[if_pos ⟨h112,h⟩,if_pos h]
    ·rw[if_neg (fun q=>h q.2),if_neg h]
   have hhead:headF l (p+n)=sg+1:=by
    unfold headF;rw[hsg];split<;>rfl
   have hnd:digitN (atL l (p+n+1+sg))=false:=by
    cases hc:digitN (atL l (p+n+1+sg))with
    |true=>exact absurd ⟨h112,hc⟩ h
    |false=>rfl
   have hst:=digitsEnd_stop hnd;rw[if_pos];unfold spanN;rw[hhead,←digitsEnd_span,show p+n+(sg+1)=p+n+1+sg from by omega,hst]
   omega
  ·rw[if_pos h112]
 ·unfold numberD;rw[hdn,←hs,if_neg (by rw[atL_dropk,atL_dropk,←Nat.add_assoc,←Nat.add_assoc];exact h),atL_dropk]
theorem nameN_or(x:Nat):nameN x=(letterN x || digitN x || decide (x=95)):=rfl
set_option maxRecDepth 20000 in
theorem refNumberR_ev(b:Bool)(l:List UInt8)(p:Nat)(hd:digitN (atL l p)=true)(hl:l.length≤140737488351232)
  (hreal:atL l (p+(digitsEnd l p-p))=112∧digitN (atL l (p+(digitsEnd l p-p)+1+sgOf (l.drop p)))=true) :
  Ev Tp γ 140 [.sl b l.length l.length (l.map byteC),.v (.int .i64 p)] (resTP p (numberD (l.drop p))):=by
 refine Ev.of Tryz.func140 rfl ?_;have hlt:=digitsEnd_lt hd;have hpl:=(digitsEnd_step hd).2;have hle:=digitsEnd_le (l:=l) (i:=p) (by omega);obtain⟨n,hn⟩:∃ n,n=digitsEnd l p-p:=⟨_,rfl⟩;obtain⟨sg,hsg⟩:∃ sg,sg=sgOf (l.drop p):=⟨_,rfl⟩;rw[←hn,←hsg]at hreal;have hdg:=refDigits_ev (γ:=γ) b l p (by omega) (by omega);rw[←digitsEnd_span,←hn]at hdg;have hen:=refEnd_ev (γ:=γ) b l (p+n) (by omega) (by omega);have w1:IntKind.i64.wrap ((p:Int)+(n:Int))=((p+n:Nat):Int):=(i64w (by omega) (by omega)).trans (by omega);have ea:∀ j,(l.getD j 0).toNat=atL l j:=fun _=>rfl
 simp only[Tryz.f140,evS,tyS,Nat.reduceAdd,Nat.reduceSub,Nat.reduceLT,Nat.reduceEqDiff,reduceCtorEq];refine CallK.intro b64 (by simp[treeL,treeA]) hdg ?_;simp only[w1,evS,Nat.reduceLT,Nat.reduceEqDiff,reduceCtorEq];obtain⟨hE,hND,hs01,hlt2,hle2⟩:=refNum_real l p n sg (by omega) hn (by omega) hsg hreal.1 hreal.2;rw[hE]at hen;refine CallK.intro b65 (by simp[treeL,treeA]) hen ?_;obtain⟨E,hE'⟩:∃ E,E=digitsEnd l (p+n+1+sg):=⟨_,rfl⟩;have hEb:p+n+1+sg<E∧E≤l.length:=by rw[hE'];exact⟨hlt2,hle2⟩
 clear hlt2 hle2;obtain⟨A,hA⟩:∃ A,A=numL (l.drop p) 0:=⟨_,rfl⟩;obtain⟨C,hC⟩:∃ C,C=numL (l.drop p) (n+1+sg):=⟨_,rfl⟩;have hdn:digitsEnd (l.drop p) 0=n:=by have:=dE_drop l p 0;rw[Nat.add_zero]at this;omega
 have hdE:digitsEnd (l.drop p) (n+1+sg)=E-p:=by have:=dE_drop l p (n+1+sg);rw[←Nat.add_assoc,←Nat.add_assoc,←hE']at this;omega
 have hA':A=(l.drop p).take (p+n-p):=by rw[hA,numL,hdn,List.drop_zero];congr 1;omega
 have hC':C=(l.drop (p+n+(sg+1))).take (p+n+(E-(p+n))-(p+n+(sg+1))):=by
  rw[hC,numL,hdE,BT,show p+(n+1+sg)=p+n+(sg+1)from by omega];congr 1;omega
 have hAl:A.length=n:=by rw[hA',Bh,Bd];omega
 have hCl:C.length=E-(p+n+(sg+1)):=by rw[hC',Bh,Bd];omega
 have hA0:atL A 0=atL l p:=by rw[hA',atL_take (by omega),atL_dropk];rfl
 have hC0:atL C 0=atL l (p+n+(sg+1)):=by rw[hC',atL_take (by omega),atL_dropk];rfl
 have hres:resTP p (numberD (l.drop p))=if realO sg A C (atL l E)=true then okTok (tokA 3 [] 0 (.v (.float .f64 (realB (decV A) (expOf sg (decV C))))) p (n+(E-(p+n)):Nat))else errTok 12:=by
  rw[hND,realD,←hA,←hC,hdE,atL_dropk,show p+(E-p)=E from by omega]
  split
  ·show okTok (tokA 3 [] 0 _ _ ((E-p:Nat):Int))=_
   rw[show n+(E-(p+n))=E-p from by omega]
  ·rfl
 have hreal66:=refReal_ev (γ:=γ) b l p n (E-(p+n)) sg A C hA' hC' (by omega) hs01 (by omega) (by omega)
  (fun k hk=>by rw[hA',atL_take hk,atL_dropk];exact digitsEnd_all k rfl (by omega))
  (fun k hk=>by rw[hC',atL_take hk,atL_dropk];exact digitsEnd_all (i:=p+n+1+sg) k (by omega) (by rw[←hE'];omega))
 have hrr:=fun h1 h2 h3=>realO_rreal (a:=A) (c:=C) (f:=atL l E) hs01 h1 h2 h3
 have hlzA:=fun (h:1<A.length∧atL A 0=48)=>lz_out (most:=9007199254740991) h
 have hlzC:=fun (h:1<C.length∧atL C 0=48)=>lz_out (most:=1023+51 * sg) h
 rw[hAl,hA0]at hlzA;rw[hCl,hC0]at hlzC;rw[hAl,hA0,hCl,hC0]at hrr
 have hro:realO sg A C (atL l E)=true→decO A 9007199254740991=true∧decO C (1023+51 * sg)=true∧nameN (atL l E)=false:=fun h=>by
  have:=realO_iff.1 h;exact⟨this.1,this.2.1,this.2.2.2.2.1⟩
 rw[hres];generalize realO sg A C (atL l E)=ro at *;rw[←hE'];have w5:IntKind.i64.wrap (((p+n:Nat):Int)+((E-(p+n):Nat):Int))=(E:Int):=(i64w (by omega) (by omega)).trans (by omega);have w6:IntKind.i64.wrap (((sg+1:Nat):Int)+1)=((sg+1+1:Nat):Int):=(i64w (by omega) (by omega)).trans (by omega);have w7:IntKind.i64.wrap (((p+n:Nat):Int)+((sg+1:Nat):Int))=((p+n+(sg+1):Nat):Int):=(i64w (by omega) (by omega)).trans (by omega)
 have dEl:decide ((E:Int)<(l.length:Int))=decide (E<l.length):=by
  by_cases h:E<l.length
  ·rw[decide_eq_true h,decide_eq_true];omega
  ·rw[decide_eq_false h,decide_eq_false];omega
 have dpos:decide ((0:Int)<((E-(p+n):Nat):Int))=true:=decide_eq_true (by omega)
 have kp48:((atL l p:Int)==48)=decide (atL l p=48):=by
  by_cases h:atL l p=48
  ·simp[h]
  ·rw[decide_eq_false h];simp;omega
 have k48:((atL l (p+n+(sg+1)):Int)==48)=decide (atL l (p+n+(sg+1))=48):=by
  by_cases h:atL l (p+n+(sg+1))=48
  ·simp[h]
  ·rw[decide_eq_false h];simp;omega
 have dn1:decide ((1:Int)<(n:Int))=decide (1<n):=by
  by_cases h:1<n
  ·rw[decide_eq_true h,decide_eq_true];omega
  ·rw[decide_eq_false h,decide_eq_false];omega
 have dsg:decide (((sg+1+1:Nat):Int)<((E-(p+n):Nat):Int))=decide (sg+1+1<E-(p+n)):=by
  by_cases h:sg+1+1<E-(p+n)
  ·rw[decide_eq_true h,decide_eq_true];omega
  ·rw[decide_eq_false h,decide_eq_false];omega
 have kE95:((atL l E:Int)==95)=decide (atL l E=95):=by
  by_cases h:atL l E=95
  ·simp[h]
  ·rw[decide_eq_false h];simp;omega
 clear hres hND hen hdg hA' hC' hA hC hdE hdn hE' hE;simp only[w1,w5,evS,tyS,Nat.reduceLT,Nat.reduceEqDiff,reduceCtorEq]
 (repeat' (first|(with_reducible refine aI ?_ ?_)|(first|(first|refine gF ?_ ?_|refine gT ?_ ?_|refine cI ?_ ?_|refine pI ?_ ?_)<;>intro h|(refine dI ?_;have h:=trivial))<;>simp only[h,w1,w6,w7,ea,dpos,kp48,k48,dn1,evS,tyS,Nat.reduceAdd,Nat.reduceLT,Nat.reduceLeDiff,Nat.reduceEqDiff,reduceCtorEq,w5,dEl,dsg,kE95,Bv,Bf,Nat.reduceSub,Nat.reduceMul,List.reduceReplicate,Int.reduceToNat,Int.reduceLE,Int.reduceLT]))
 all_goals try (((try simp only[decide_eq_true_eq,decide_eq_false_iff_not]at *)<;>(try omega));done)
 all_goals try (refine CallK.intro b40 rfl (refLetter_ev _) ?_;simp only[evS,Nat.reduceLT,Nat.reduceEqDiff,reduceCtorEq];(repeat' (first|(with_reducible refine aI ?_ ?_)|(first|(first|refine gF ?_ ?_|refine gT ?_ ?_|refine cI ?_ ?_|refine pI ?_ ?_)<;>intro h|(refine dI ?_;have h:=trivial))<;>simp only[h,w1,w6,w7,ea,kp48,k48,dn1,evS,tyS,Nat.reduceAdd,Nat.reduceLT,Nat.reduceLeDiff,Nat.reduceEqDiff,reduceCtorEq,w5,dEl,dpos,dsg,kE95,Bv,Bf,Nat.reduceSub,Nat.reduceMul,List.reduceReplicate,Int.reduceToNat,Int.reduceLE,Int.reduceLT])))
 all_goals try (((try simp only[decide_eq_true_eq,decide_eq_false_iff_not]at *)<;>(try omega));done)
 all_goals try (refine CallK.intro b41 rfl (refDigit_ev _) ?_;simp only[evS,Nat.reduceLT,Nat.reduceEqDiff,reduceCtorEq];(repeat' (first|(with_reducible refine aI ?_ ?_)|(first|(first|refine gF ?_ ?_|refine gT ?_ ?_|refine cI ?_ ?_|refine pI ?_ ?_)<;>intro h|(refine dI ?_;have h:=trivial))<;>simp only[h,w1,w6,w7,ea,dpos,kp48,k48,dn1,kE95,evS,tyS,Nat.reduceAdd,Nat.reduceLT,Nat.reduceLeDiff,Nat.reduceEqDiff,reduceCtorEq,w5,dEl,dsg,Bv,Bf,Nat.reduceSub,Nat.reduceMul,List.reduceReplicate,Int.reduceToNat,Int.reduceLE,Int.reduceLT])))
 all_goals try (((try simp only[decide_eq_true_eq,decide_eq_false_iff_not]at *)<;>(try omega));done)
 all_goals (try simp only[decide_eq_true_eq,decide_eq_false_iff_not]at *)
 all_goals first
  |(have hr:ro=false:=(by
    cases hr:ro with
    |false=>rfl
    |true=>
     exfalso
     obtain⟨q1,q2,q3⟩:=hro hr
     first
      |(rw[hlzA ⟨by omega,by omega⟩]at q1;cases q1)
      |(rw[hlzC ⟨by omega,by omega⟩]at q2;cases q2)
      |(simp_all [nameN_or];done))
    rw[hr,if_neg (by decide)];simp only[errTok,tokA,f0,evS]
    first|done|rfl)
  |(have hnm:nameN (atL l E)=false:=(by
    first
     |(rw[atL_out (by omega)];decide)
     |(rw[nameN_or];simp_all;done))
    have hrr':=hrr (by omega) (by omega) hnm;have h66:=hreal66;rw[←hrr']at h66;cases hr:ro with
    |true=>
     rw[hr,if_pos rfl]at h66;refine CallK.intro b66 (by simp[treeL,treeA]) h66 ?_;rw[if_pos rfl];simp only[okTok,tokA,evS,tyS,Nat.reduceAdd,Nat.reduceLT,Nat.reduceLeDiff,Nat.reduceEqDiff,reduceCtorEq]
     first|done|rfl
    |false=>
     rw[hr,if_neg (by decide)]at h66;refine CallK.intro b66 (by simp[treeL,treeA]) h66 ?_;rw[if_neg (by decide)];simp only[errTok,tokA,f0,evS,tyS,Nat.reduceAdd,Nat.reduceLT,Nat.reduceLeDiff,Nat.reduceEqDiff,reduceCtorEq]
     first|done|rfl)
  |trace_state
set_option maxRecDepth 20000 in
theorem refNumberI_ev(b:Bool)(l:List UInt8)(p:Nat)(hd:digitN (atL l p)=true)(hl:l.length≤140737488351232)
  (hint:¬(atL l (p+(digitsEnd l p-p))=112∧digitN (atL l (p+(digitsEnd l p-p)+1+sgOf (l.drop p)))=true)) :
  Ev Tp γ 140 [.sl b l.length l.length (l.map byteC),.v (.int .i64 p)] (resTP p (numberD (l.drop p))):=by
 refine Ev.of Tryz.func140 rfl ?_;have hlt:=digitsEnd_lt hd;have hpl:=(digitsEnd_step hd).2;have hle:=digitsEnd_le (l:=l) (i:=p) (by omega);obtain⟨n,hn⟩:∃ n,n=digitsEnd l p-p:=⟨_,rfl⟩;obtain⟨sg,hsg⟩:∃ sg,sg=sgOf (l.drop p):=⟨_,rfl⟩;rw[←hn,←hsg]at hint;have hdg:=refDigits_ev (γ:=γ) b l p (by omega) (by omega);rw[←digitsEnd_span,←hn]at hdg;have hen:=refEnd_ev (γ:=γ) b l (p+n) (by omega) (by omega);have w1:IntKind.i64.wrap ((p:Int)+(n:Int))=((p+n:Nat):Int):=(i64w (by omega) (by omega)).trans (by omega);have ea:∀ j,(l.getD j 0).toNat=atL l j:=fun _=>rfl
 obtain⟨hE,hND⟩:=refNum_int l p n sg (by omega) hn (by omega) hsg hint;rw[hE]at hen;have hn1:1≤n:=by omega
 have hpn:p+n≤l.length:=by omega
 obtain⟨A,hA⟩:∃ A,A=numL (l.drop p) 0:=⟨_,rfl⟩;have hdn:digitsEnd (l.drop p) 0=n:=by have:=dE_drop l p 0;rw[Nat.add_zero]at this;omega
 have hA':A=(l.drop p).take (p+n-p):=by rw[hA,numL,hdn,List.drop_zero];congr 1;omega
 have hAl:A.length=n:=by rw[hA',Bh,Bd];omega
 have hA0:atL A 0=atL l p:=by rw[hA',atL_take (by omega),atL_dropk];rfl
 have hwa:=wholeAt_ev (γ:=γ) b l p (p+n) (by omega) (by omega) (by omega) (fun k hk=>by rw[atL_take hk,atL_dropk];exact digitsEnd_all k rfl (by omega));rw[←hA',wholeR_eq]at hwa;rw[hND,←hA];have hlz:=fun (h:1<A.length∧atL A 0=48)=>lz_out (most:=9223372036854775807) h
 rw[hAl,hA0]at hlz
 have hdo:¬(1<n∧atL l p=48)→decO A 9223372036854775807=decide (decV A≤9223372036854775807):=fun h=>by
  unfold decO;rw[hAl,hA0]
  by_cases h2:decV A≤9223372036854775807
  ·rw[decide_eq_true h2,decide_eq_true];exact⟨h,by omega,by omega⟩
  ·rw[decide_eq_false h2,decide_eq_false];rintro⟨_,_,q⟩;omega
 have w5:IntKind.i64.wrap (((p+n:Nat):Int)+0)=((p+n:Nat):Int):=(i64w (by omega) (by omega)).trans (by omega);have w6:IntKind.i64.wrap (0+1)=1:=by decide
 have w50:IntKind.i64.wrap (((p+n:Nat):Int)+((0:Nat):Int))=((p+n:Nat):Int):=(i64w (by omega) (by omega)).trans (by omega)
 have dEl:decide (((p+n:Nat):Int)<(l.length:Int))=decide (p+n<l.length):=by
  by_cases h:p+n<l.length
  ·rw[decide_eq_true h,decide_eq_true];omega
  ·rw[decide_eq_false h,decide_eq_false];omega
 have kp48:((atL l p:Int)==48)=decide (atL l p=48):=by
  by_cases h:atL l p=48
  ·simp[h]
  ·rw[decide_eq_false h];simp;omega
 have dn1:decide ((1:Int)<(n:Int))=decide (1<n):=by
  by_cases h:1<n
  ·rw[decide_eq_true h,decide_eq_true];omega
  ·rw[decide_eq_false h,decide_eq_false];omega
 have kE95:((atL l (p+n):Int)==95)=decide (atL l (p+n)=95):=by
  by_cases h:atL l (p+n)=95
  ·simp[h]
  ·rw[decide_eq_false h];simp;omega
 have ept:((p:Int)+(n:Int)).toNat=p+n:=by omega
 have w60:IntKind.i64.wrap (((0:Nat):Int)+1)=1:=by decide
 have d10c:decide ((1:Int)<((0:Nat):Int))=false:=by decide
 have d10:decide ((1:Int)<0)=false:=by decide
 have d00:decide ((0:Int)<0)=false:=by decide
 clear hA' hA hdn hND hE hn hsg hint hlt;simp only[Tryz.f140,evS,tyS,Nat.reduceAdd,Nat.reduceSub,Nat.reduceLT,Nat.reduceEqDiff,reduceCtorEq];refine CallK.intro b64 (by simp[treeL,treeA]) hdg ?_;simp only[w1,evS,Nat.reduceLT,Nat.reduceEqDiff,reduceCtorEq];refine CallK.intro b65 (by simp[treeL,treeA]) hen ?_;clear hdg hen;simp only[w1,w50,evS,tyS,Nat.reduceLT,Nat.reduceEqDiff,reduceCtorEq]
 (repeat' (first|(with_reducible refine aI ?_ ?_)|(first|(first|refine gF ?_ ?_|refine gT ?_ ?_|refine cI ?_ ?_|refine pI ?_ ?_)<;>intro h|(refine dI ?_;have h:=trivial))<;>simp only[h,ea,kp48,dn1,w60,d10c,evS,tyS,Nat.reduceAdd,Nat.reduceLT,Nat.reduceLeDiff,Nat.reduceEqDiff,reduceCtorEq,w1,w5,w50,w6,dEl,kE95,d10,d00,ept,Bv,Bf,Nat.reduceSub,Nat.reduceMul,List.reduceReplicate,Int.reduceToNat,Int.reduceLE,Int.reduceLT]))
 all_goals try (((try simp only[decide_eq_true_eq,decide_eq_false_iff_not]at *)<;>(try omega));done)
 all_goals try (refine CallK.intro b40 rfl (refLetter_ev _) ?_;simp only[evS,Nat.reduceLT,Nat.reduceEqDiff,reduceCtorEq];(repeat' (first|(with_reducible refine aI ?_ ?_)|(first|(first|refine gF ?_ ?_|refine gT ?_ ?_|refine cI ?_ ?_|refine pI ?_ ?_)<;>intro h|(refine dI ?_;have h:=trivial))<;>simp only[h,ea,kp48,dn1,w60,d10c,evS,tyS,Nat.reduceAdd,Nat.reduceLT,Nat.reduceLeDiff,Nat.reduceEqDiff,reduceCtorEq,w1,w5,w50,w6,dEl,kE95,d10,d00,ept,Bv,Bf,Nat.reduceSub,Nat.reduceMul,List.reduceReplicate,Int.reduceToNat,Int.reduceLE,Int.reduceLT])))
 all_goals try (((try simp only[decide_eq_true_eq,decide_eq_false_iff_not]at *)<;>(try omega));done)
 all_goals try (refine CallK.intro b41 rfl (refDigit_ev _) ?_;simp only[evS,Nat.reduceLT,Nat.reduceEqDiff,reduceCtorEq];(repeat' (first|(with_reducible refine aI ?_ ?_)|(first|(first|refine gF ?_ ?_|refine gT ?_ ?_|refine cI ?_ ?_|refine pI ?_ ?_)<;>intro h|(refine dI ?_;have h:=trivial))<;>simp only[h,ea,kp48,dn1,kE95,w60,d10c,evS,tyS,Nat.reduceAdd,Nat.reduceLT,Nat.reduceLeDiff,Nat.reduceEqDiff,reduceCtorEq,w1,w5,w50,w6,dEl,d10,d00,ept,Bv,Bf,Nat.reduceSub,Nat.reduceMul,List.reduceReplicate,Int.reduceToNat,Int.reduceLE,Int.reduceLT])))
 all_goals try (((try simp only[decide_eq_true_eq,decide_eq_false_iff_not]at *)<;>(try omega));done)
 all_goals (try simp only[decide_eq_true_eq,decide_eq_false_iff_not]at *)
 all_goals first
  |(refine CallK.intro b67 (by simp[treeL,treeA]) hwa ?_
    have hnm:nameN (atL l (p+n))=false:=(by
     first
      |(rw[atL_out (by omega)];decide)
      |(rw[nameN_or];simp_all;done))
    have hdo':=hdo (by omega)
    by_cases hv:decV A≤9223372036854775807
    ·rw[if_pos hv,decide_eq_true hv,if_pos ⟨by rw[hdo'];exact decide_eq_true hv,hnm⟩];simp only[resTP,okTok,TokD.av,tokA,evS,tyS,Bv,Nat.reduceAdd,Nat.reduceLT,Nat.reduceLeDiff,Nat.reduceEqDiff,reduceCtorEq]
     first|done|rfl
    ·rw[if_neg hv,decide_eq_false hv,if_neg (by rintro⟨q,_⟩;rw[hdo',decide_eq_false hv]at q;cases q)];simp only[resTP,errTok,tokA,f0,evS,tyS,Bf,Nat.reduceAdd,Nat.reduceLT,Nat.reduceLeDiff,Nat.reduceEqDiff,reduceCtorEq]
     first|done|rfl)
  |(have hr:¬(decO A 9223372036854775807=true∧nameN (atL l (p+n))=false):=(by
    rintro⟨q1,q3⟩
    first
     |(rw[hlz ⟨by omega,by omega⟩]at q1;cases q1)
     |(simp_all [nameN_or];done)
     |(simp_all [nameN_or];omega))
    rw[if_neg hr];simp only[resTP,errTok,tokA,f0,evS]
    first|done|rfl)
theorem refNumber_ev(b:Bool)(l:List UInt8)(p:Nat)(hd:digitN (atL l p)=true)(hl:l.length≤140737488351232):
  Ev Tp γ 140 [.sl b l.length l.length (l.map byteC),.v (.int .i64 p)] (resTP p (numberD (l.drop p))):=by
 by_cases hreal:atL l (p+(digitsEnd l p-p))=112∧digitN (atL l (p+(digitsEnd l p-p)+1+sgOf (l.drop p)))=true
 ·exact refNumberR_ev b l p hd hl hreal
 ·exact refNumberI_ev b l p hd hl hreal
theorem mark1':∀ n,n<256→marksL.contains [n.toUInt8]=decide (0≤Lib.indexByte sglL n.toUInt8):=by decide +kernel
theorem mark1(a:UInt8):marksL.contains [a]=decide (0≤Lib.indexByte sglL a):=by
 have:=mark1' a.toNat a.toNat_lt;simpa using this
theorem mark2(a b:UInt8)(ha:a≠32)(hb:b≠32):marksL.contains [a,b]=hasSub dblL [a,b]:=by
 rw[Bool.eq_iff_iff];rw[List.contains_iff_mem];simp only[marksL,dblL,hasSub,List.isPrefixOf,BI,List.cons.injEq,Bool.or_eq_true,Bool.and_eq_true,beq_iff_eq,List.isEmpty,Bool.and_true,Bool.or_false,List.not_mem_nil,reduceCtorEq,and_false,and_true,or_false,false_or]
 grind
theorem mark2s(a b:UInt8)(h:a=32∨b=32):marksL.contains [a,b]=false:=by
 rw[←Bool.not_eq_true,List.contains_iff_mem];simp only[marksL,BI,List.cons.injEq,List.not_mem_nil,reduceCtorEq,and_false,and_true,or_false,false_or]
 grind
theorem nameN_or'(x:Nat):nameN x=(letterN x || digitN x || decide (x=95)):=rfl
theorem resTP_shape(p:Nat)(x:Except Int TokD):∃ k t i r q z e,resTP p x=.tup [.agg [.v (.int .i64 k),.v (.string t),.v (.int .i64 i),.v (.float .f64 r),.v (.int .i64 q),.v (.int .i64 z)],.v (.int .i64 e)]:=by
 cases x with
 |ok t=>exact⟨_,_,_,_,_,_,_,rfl⟩
 |error e=>exact⟨_,_,_,_,_,_,_,rfl⟩
theorem spanEnd_drop(q:Nat→Bool)(l:List UInt8)(p i:Nat):spanEnd q (l.drop p) i+p=spanEnd q l (p+i):=by
 unfold spanEnd;rw[BT]
 omega
theorem markN_ref(s:List UInt8)(h1:1≤s.length):markN s=if 2≤s.length∧marksL.contains (s.take 2)=true then 2 else if marksL.contains (s.take 1)=true then 1 else 0:=by
 match s,h1 with
 |[a],_=>
  have e0:(atL [a] 0).toUInt8=a:=by simp[atL]
  have hR:(if 2≤[a].length∧marksL.contains ([a].take 2)=true then 2 else if marksL.contains ([a].take 1)=true then 1 else 0)=if marksL.contains [a]=true then 1 else 0:=by rw[if_neg (by simp)];rfl
  rw[hR];unfold markN;rw[if_neg (by simp),e0,mark1 a]
  by_cases h:0≤Lib.indexByte sglL a
  ·rw[if_pos h,if_pos (decide_eq_true h)]
  ·rw[if_neg h,if_neg (by rw[decide_eq_true_eq];exact h)]
 |a::b::t,_=>
  have e0:(atL (a::b::t) 0).toUInt8=a:=by simp[atL]
  have n0:atL (a::b::t) 0=a.toNat:=rfl;have n1:atL (a::b::t) 1=b.toNat:=rfl;have ht:(a::b::t).take 2=[a,b]:=rfl;have ht1:(a::b::t).take 1=[a]:=rfl;unfold markN;rw[ht,ht1,e0,n0,n1,mark1 a]
  have hne:∀ x:UInt8,x.toNat≠32↔x≠32:=fun x=>by
   constructor
   ·intro h e;exact h (by rw[e];rfl)
   ·intro h e;exact h (UInt8.toNat_inj.1 (by rw[e];rfl))
  have hiff:(1<(a::b::t).length∧a.toNat≠32∧b.toNat≠32∧hasSub dblL [a,b]=true)↔(2≤(a::b::t).length∧marksL.contains [a,b]=true):=by
   rw[hne,hne]
   constructor
   ·rintro⟨q1,q2,q3,q4⟩;exact⟨q1,by rw[mark2 a b q2 q3];exact q4⟩
   ·rintro⟨q1,q2⟩
    by_cases h:a=32∨b=32
    ·rw[mark2s a b h]at q2;cases q2
    ·have h':a≠32∧b≠32:=⟨fun e=>h (.inl e),fun e=>h (.inr e)⟩;exact⟨q1,h'.1,h'.2,by rw[←mark2 a b h'.1 h'.2];exact q2⟩
  by_cases hc:2≤(a::b::t).length∧marksL.contains [a,b]=true
  ·rw[if_pos hc,if_pos (hiff.2 hc)]
  ·rw[if_neg hc,if_neg (fun q=>hc (hiff.1 q))]
   by_cases h:0≤Lib.indexByte sglL a
   ·rw[if_pos h,if_pos (decide_eq_true h)]
   ·rw[if_neg h,if_neg (by rw[decide_eq_true_eq];exact h)]
set_option maxRecDepth 20000 in
theorem refToken_ev(b:Bool)(l:List UInt8)(p:Nat)(hp:p<l.length)(hl:l.length≤140737488351232):
  Ev Tp γ 86 [.sl b l.length l.length (l.map byteC),.v (.int .i64 p)] (resTP p (headD (l.drop p))):=by
 refine Ev.of Tryz.func86 rfl ?_;have ea:∀ j,(l.getD j 0).toNat=atL l j:=fun _=>rfl
 have hmd:List.drop p (List.map byteC l)=List.map byteC (List.drop p l):=List.map_drop.symm
 have k95:∀ x:Nat,((x:Int)==95)=decide (x=95):=fun x=>by
  by_cases h:x=95
  ·simp[h]
  ·rw[decide_eq_false h];simp;omega
 have ha0:atL (l.drop p) 0=atL l p:=by rw[atL_dropk];rfl
 have hh:headD (l.drop p)=if letterN (atL l p)=true then (if 32<spanEnd nameN (l.drop p) 1 then .error 13 else .ok ⟨1,(l.drop p).take (spanEnd nameN (l.drop p) 1),0,0,spanEnd nameN (l.drop p) 1⟩)
   else if digitN (atL l p)=true then numberD (l.drop p)
   else if atL l p=34 then textD (l.drop p)
   else if markN (l.drop p)=0 then .error 10 else .ok ⟨5,(l.drop p).take (markN (l.drop p)),0,0,markN (l.drop p)⟩:=by rw[headD,ha0]
 simp only[Tryz.f86,ea,evS,tyS,Nat.reduceAdd,Nat.reduceSub,Nat.reduceLT,Nat.reduceEqDiff,reduceCtorEq]
 (repeat' (first|(with_reducible refine aI ?_ ?_)|(first|(first|refine gF ?_ ?_|refine gT ?_ ?_|refine cI ?_ ?_|refine pI ?_ ?_)<;>intro h|(refine dI ?_;have h:=trivial))<;>simp only[h,ea,evS,tyS,Bv,Bf,Nat.reduceAdd,Nat.reduceSub,Nat.reduceMul,Nat.reduceLT,Nat.reduceLeDiff,Nat.reduceEqDiff,reduceCtorEq,List.reduceReplicate,Int.reduceToNat,Int.reduceLE,Int.reduceLT]))
 all_goals try (((try simp only[decide_eq_true_eq,decide_eq_false_iff_not,beq_iff_eq,bne_iff_ne,ne_eq,beq_eq_false_iff_ne,bne_eq_false_iff_eq]at *)<;>(try omega));done)
 refine CallK.intro b40 rfl (refLetter_ev _) ?_;simp only[evS,Nat.reduceLT,Nat.reduceEqDiff,reduceCtorEq];cases hlet:letterN (atL l p)with
 |true=>
  rw[if_pos hlet]at hh;have hsp:=spanEnd_drop nameN l p 1;obtain⟨N,hN⟩:∃ N,N=spanEnd nameN (l.drop p) 1:=⟨_,rfl⟩;have hNle:=spanEnd_le (p:=nameN) (l:=l) (i:=p+1) (by omega);rw[←hN]at hh hsp;simp only[evS,Nat.reduceLT];refine LoopK.intro (fun j:Nat=>⟨⟨122,[(0,.sl b l.length l.length (l.map byteC)),(1,.v (.int .i64 p)),(4,.ptr 0 0 0),(6,.v (.int .i64 j))],γ⟩,[⟨0,54,zero6⟩]⟩) (fun j=>1≤j∧p+j≤l.length∧spanEnd nameN l (p+j)=p+N) (fun j=>l.length-j) 1 ?_ ⟨by omega,by omega,by omega⟩ (fun j hj=>?_)
  ·simp only[zero6,evS,Nat.reduceEqDiff,reduceCtorEq]
   (repeat' (first|(with_reducible refine aI ?_ ?_)|(first|(first|refine gF ?_ ?_|refine gT ?_ ?_|refine cI ?_ ?_|refine pI ?_ ?_)<;>intro h|(refine dI ?_;have h:=trivial))<;>simp only[h,evS,tyS,Bv,Bf,Nat.reduceAdd,Nat.reduceSub,Nat.reduceMul,Nat.reduceLT,Nat.reduceLeDiff,Nat.reduceEqDiff,reduceCtorEq,List.reduceReplicate,Int.reduceToNat,Int.reduceLE,Int.reduceLT]))
   all_goals first|rfl|exact .inl rfl
  ·obtain⟨hj1,hj2,hj3⟩:=hj;have w1:IntKind.i64.wrap ((p:Int)+(j:Int))=((p+j:Nat):Int):=(i64w (by omega) (by omega)).trans (by omega);have ej:IntKind.i64.wrap ((j:Int)+1)=((j+1:Nat):Int):=i64w (by omega) (by omega);have esub:p+j-p=j:=by omega
   have hdl:(List.drop p l).length=l.length-p:=Bd;have hstop:∀ (hs:p+j<l.length→nameN (l.getD (p+j) 0).toNat=false),j=N:=fun hs=>by have:=spanEnd_stop (p:=nameN) hs;omega
   have hgo:∀ (h1:p+j<l.length) (h2:nameN (atL l (p+j))=true),spanEnd nameN l (p+(j+1))=p+N:=fun h1 h2=>by rw[←Nat.add_assoc,←spanEnd_step h1 h2];exact hj3
   simp only[w1,zero6,evS,tyS,Nat.reduceLT,Nat.reduceEqDiff,reduceCtorEq]
   (repeat' (first|(with_reducible refine aI ?_ ?_)|(first|(first|refine gF ?_ ?_|refine gT ?_ ?_|refine cI ?_ ?_|refine pI ?_ ?_)<;>intro h|(refine dI ?_;have h:=trivial))<;>simp only[h,w1,ea,hmd,esub,evS,tyS,Nat.reduceAdd,Nat.reduceLT,Nat.reduceLeDiff,Nat.reduceEqDiff,reduceCtorEq,k95,Bv,Bf,Nat.reduceSub,Nat.reduceMul,List.reduceReplicate,Int.reduceToNat,Int.reduceLE,Int.reduceLT]))
   all_goals try (((try simp only[decide_eq_true_eq,decide_eq_false_iff_not]at *)<;>(try omega));done)
   all_goals try (refine CallK.intro b40 rfl (refLetter_ev _) ?_;simp only[evS,Nat.reduceLT,Nat.reduceEqDiff,reduceCtorEq];(repeat' (first|(with_reducible refine aI ?_ ?_)|(first|(first|refine gF ?_ ?_|refine gT ?_ ?_|refine cI ?_ ?_|refine pI ?_ ?_)<;>intro h|(refine dI ?_;have h:=trivial))<;>simp only[h,w1,ea,evS,tyS,Nat.reduceLT,Nat.reduceEqDiff,reduceCtorEq,k95,hmd,esub,Bv,Bf,Nat.reduceAdd,Nat.reduceSub,Nat.reduceMul,Nat.reduceLeDiff,List.reduceReplicate,Int.reduceToNat,Int.reduceLE,Int.reduceLT])))
   all_goals try (((try simp only[decide_eq_true_eq,decide_eq_false_iff_not]at *)<;>(try omega));done)
   all_goals try (refine CallK.intro b41 rfl (refDigit_ev _) ?_;simp only[evS,Nat.reduceLT,Nat.reduceEqDiff,reduceCtorEq];(repeat' (first|(with_reducible refine aI ?_ ?_)|(first|(first|refine gF ?_ ?_|refine gT ?_ ?_|refine cI ?_ ?_|refine pI ?_ ?_)<;>intro h|(refine dI ?_;have h:=trivial))<;>simp only[h,w1,ea,k95,hmd,esub,evS,tyS,Nat.reduceAdd,Nat.reduceLT,Nat.reduceLeDiff,Nat.reduceEqDiff,reduceCtorEq,Bv,Bf,Nat.reduceSub,Nat.reduceMul,List.reduceReplicate,Int.reduceToNat,Int.reduceLE,Int.reduceLT])))
   all_goals try (((try simp only[decide_eq_true_eq,decide_eq_false_iff_not]at *)<;>(try omega));done)
   all_goals first
    |(refine loopC.intro (j+1) ⟨by omega,by (try simp only[decide_eq_true_eq]at *);omega,hgo (by (try simp only[decide_eq_true_eq]at *);omega) (by rw[nameN_or'];simp_all)⟩ ?_ (by (try simp only[decide_eq_true_eq,decide_eq_false_iff_not]at *);omega)
      simp only[ej,evS,Nat.reduceEqDiff,reduceCtorEq]
      (repeat' (first|(with_reducible refine aI ?_ ?_)|(first|(first|refine gF ?_ ?_|refine gT ?_ ?_|refine cI ?_ ?_|refine pI ?_ ?_)<;>intro h|(refine dI ?_;have h:=trivial))<;>simp only[h,evS,tyS,Bv,Bf,Nat.reduceAdd,Nat.reduceSub,Nat.reduceMul,Nat.reduceLT,Nat.reduceLeDiff,Nat.reduceEqDiff,reduceCtorEq,List.reduceReplicate,Int.reduceToNat,Int.reduceLE,Int.reduceLT]))
      all_goals first|rfl|exact .inl rfl)
    |(have hjN:j=N:=hstop (fun hlt=>by
       show nameN (atL l (p+j))=false
       rw[nameN_or'];simp_all)
      subst hjN
      (try simp only[decide_eq_true_eq,decide_eq_false_iff_not]at *)
      first
       |(rw[hh,if_pos (by omega)];simp only[resTP,errTok,tokA,f0,evS];first|done|rfl)
       |(rw[hh,if_neg (by omega)];simp only[resTP,okTok,TokD.av,tokA,evS];first|done|rfl)
       |(refine And.intro (by omega) (And.intro (by omega) ?_);rw[hh,if_neg (by omega)];simp only[resTP,okTok,TokD.av,tokA,evS,tyS,Bv,Bf,Nat.reduceAdd,Nat.reduceSub,Nat.reduceMul,Nat.reduceLT,Nat.reduceLeDiff,Nat.reduceEqDiff,reduceCtorEq,List.reduceReplicate,Int.reduceToNat,Int.reduceLE,Int.reduceLT];first|done|rfl)
       |(refine And.intro (by omega) ?_;rw[hh,if_neg (by omega)];simp only[resTP,okTok,TokD.av,tokA,evS,tyS,Bv,Bf,Nat.reduceAdd,Nat.reduceSub,Nat.reduceMul,Nat.reduceLT,Nat.reduceLeDiff,Nat.reduceEqDiff,reduceCtorEq,List.reduceReplicate,Int.reduceToNat,Int.reduceLE,Int.reduceLT];first|done|rfl)
       |omega
       |trace_state)
    |trace_state
 |false=>
  rw[if_neg (by rw[hlet];decide)]at hh;simp only[ea,evS,tyS,Nat.reduceLT,Nat.reduceEqDiff,reduceCtorEq]
  (repeat' (first|(with_reducible refine aI ?_ ?_)|(first|(first|refine gF ?_ ?_|refine gT ?_ ?_|refine cI ?_ ?_|refine pI ?_ ?_)<;>intro h|(refine dI ?_;have h:=trivial))<;>simp only[h,ea,evS,tyS,Bv,Bf,Nat.reduceAdd,Nat.reduceSub,Nat.reduceMul,Nat.reduceLT,Nat.reduceLeDiff,Nat.reduceEqDiff,reduceCtorEq,List.reduceReplicate,Int.reduceToNat,Int.reduceLE,Int.reduceLT]))
  all_goals try (((try simp only[decide_eq_true_eq,decide_eq_false_iff_not,beq_iff_eq,bne_iff_ne,ne_eq,beq_eq_false_iff_ne,bne_eq_false_iff_eq]at *)<;>(try omega));done)
  refine CallK.intro b41 rfl (refDigit_ev _) ?_;cases hdig:digitN (atL l p)with
  |true=>
   rw[if_pos hdig]at hh;have hr:=refNumber_ev (γ:=γ) b l p hdig hl;rw[hh];obtain⟨k1,k2,k3,k4,k5,k6,k7,hsh⟩:=resTP_shape p (numberD (l.drop p));rw[hsh]at hr⊢;simp only[evS,Nat.reduceLT,Nat.reduceEqDiff,reduceCtorEq];refine CallK.intro b42 (by simp[treeL,treeA]) hr ?_;simp only[evS,tyS,Nat.reduceAdd,Nat.reduceLT,Nat.reduceLeDiff,Nat.reduceEqDiff,reduceCtorEq]
  |false=>
   rw[if_neg (by rw[hdig];decide)]at hh
   have k34:((atL l p:Int)==34)=decide (atL l p=34):=by
    by_cases h:atL l p=34
    ·simp[h]
    ·rw[decide_eq_false h];simp;omega
   simp only[ea,k34,evS,tyS,Nat.reduceLT,Nat.reduceEqDiff,reduceCtorEq]
   (repeat' (first|(with_reducible refine aI ?_ ?_)|(first|(first|refine gF ?_ ?_|refine gT ?_ ?_|refine cI ?_ ?_|refine pI ?_ ?_)<;>intro h|(refine dI ?_;have h:=trivial))<;>simp only[h,evS,Nat.reduceLT,Nat.reduceEqDiff,reduceCtorEq,ea,k34,tyS,Bv,Bf,Nat.reduceAdd,Nat.reduceSub,Nat.reduceMul,Nat.reduceLeDiff,List.reduceReplicate,Int.reduceToNat,Int.reduceLE,Int.reduceLT]))
   all_goals try (((try simp only[decide_eq_true_eq,decide_eq_false_iff_not]at *)<;>(try omega));done)
   ·rw[if_pos (of_decide_eq_true h)]at hh;have hr:=refText_ev (γ:=γ) b l p (by omega) hp;rw[refText_av l p hp]at hr;rw[hh];obtain⟨k1,k2,k3,k4,k5,k6,k7,hsh⟩:=resTP_shape p (textD (l.drop p));rw[hsh]at hr⊢;refine CallK.intro b43 (by simp[treeL,treeA]) hr ?_;simp only[evS,tyS,Nat.reduceAdd,Nat.reduceLT,Nat.reduceLeDiff,Nat.reduceEqDiff,reduceCtorEq]
   ·rw[if_neg (of_decide_eq_false h)]at hh;have hdl:(List.drop p l).length=l.length-p:=Bd;have hmr:=markN_ref (l.drop p) (by omega);refine LoopK.intro (fun j:Nat=>⟨⟨122,[(0,.sl b l.length l.length (l.map byteC)),(1,.v (.int .i64 p)),(4,.ptr 0 0 0),(11,.v (.int .i64 ((2-j:Nat):Int)))],γ⟩,[⟨0,54,zero6⟩]⟩) (fun j=>j≤2∧(1≤j→¬(2≤(l.drop p).length∧marksL.contains ((l.drop p).take 2)=true))∧(2≤j→¬(marksL.contains ((l.drop p).take 1)=true))) (fun j=>2-j) 0 ?_ ⟨by omega,by omega,by omega⟩ (fun j hj=>?_)
    ·simp only[zero6,evS,Nat.reduceEqDiff,reduceCtorEq]
     (repeat' (first|(with_reducible refine aI ?_ ?_)|(first|(first|refine gF ?_ ?_|refine gT ?_ ?_|refine cI ?_ ?_|refine pI ?_ ?_)<;>intro h|(refine dI ?_;have h:=trivial))<;>simp only[h,evS,tyS,Bv,Bf,Nat.reduceAdd,Nat.reduceSub,Nat.reduceMul,Nat.reduceLT,Nat.reduceLeDiff,Nat.reduceEqDiff,reduceCtorEq,List.reduceReplicate,Int.reduceToNat,Int.reduceLE,Int.reduceLT]))
     all_goals first|rfl|exact .inl rfl
    ·obtain⟨hj1,hj2,hj3⟩:=hj
     match j,hj1 with
     |0,_=>
      have w1:IntKind.i64.wrap ((p:Int)+((2-0:Nat):Int))=((p+2:Nat):Int):=(i64w (by omega) (by omega)).trans (by omega);have c1:decide ((1:Int)≤((2-0:Nat):Int))=true:=by decide
      have d1:decide (((p+2:Nat):Int)≤(l.length:Int))=decide (p+2≤l.length):=by
       by_cases h:p+2≤l.length
       ·rw[decide_eq_true h,decide_eq_true];omega
       ·rw[decide_eq_false h,decide_eq_false];omega
      have ws:IntKind.i64.wrap (((2-0:Nat):Int)-1)=((2-1:Nat):Int):=by decide
      simp only[w1,zero6,c1,d1,evS,tyS,Nat.reduceLT,Nat.reduceEqDiff,reduceCtorEq]
      (repeat' (first|(with_reducible refine aI ?_ ?_)|(first|(first|refine gF ?_ ?_|refine gT ?_ ?_|refine cI ?_ ?_|refine pI ?_ ?_)<;>intro h|(refine dI ?_;have h:=trivial))<;>simp only[h,w1,hmd,evS,tyS,Nat.reduceLT,Nat.reduceEqDiff,reduceCtorEq,ea,Bv,Bf,Nat.reduceAdd,Nat.reduceSub,Nat.reduceMul,Nat.reduceLeDiff,List.reduceReplicate,Int.reduceToNat,Int.reduceLE,Int.reduceLT]))
      all_goals try (((try simp only[decide_eq_true_eq,decide_eq_false_iff_not]at *)<;>(try omega));done)
      ·have hle:p+2≤l.length:=of_decide_eq_true (by assumption)
       (repeat' (with_reducible refine aI ?_ ?_))
       all_goals try omega
       refine CallK.intro b44 rfl (refIsMark_ev _) ?_;have etk:p+2-p=2:=by omega
       rw[etk];cases hmk:marksL.contains (List.take 2 (List.drop p l))with
       |true=>
        have hM:markN (l.drop p)=2:=by rw[hmr];rw[if_pos ⟨by omega,hmk⟩]
        rw[hM,if_neg (by decide)]at hh;simp only[w1,hmd,etk,evS,tyS,Nat.reduceAdd,Nat.reduceLT,Nat.reduceLeDiff,Nat.reduceEqDiff,reduceCtorEq]
        (repeat' (first|(with_reducible refine aI ?_ ?_)|(first|(first|refine gF ?_ ?_|refine gT ?_ ?_|refine cI ?_ ?_|refine pI ?_ ?_)<;>intro h|(refine dI ?_;have h:=trivial))<;>simp only[h,w1,ea,hmd,etk,evS,tyS,Bv,Bf,Nat.reduceAdd,Nat.reduceSub,Nat.reduceMul,Nat.reduceLT,Nat.reduceLeDiff,Nat.reduceEqDiff,reduceCtorEq,List.reduceReplicate,Int.reduceToNat,Int.reduceLE,Int.reduceLT]))
        all_goals try omega
        rw[hh];simp only[resTP,okTok,TokD.av,tokA,evS]
        all_goals first|done|rfl|trace_state
       |false=>
        simp only[evS,Nat.reduceLT,Nat.reduceEqDiff,reduceCtorEq];refine loopC.intro 1 ⟨by omega,?_,?_⟩ ?_ (by omega)
        ·intro _;first|(rintro⟨_,q⟩;cases q;done)|(rintro⟨_,q⟩;simp_all;done)|simp_all
        ·intro _;omega
        ·simp only[ws,evS,Nat.reduceSub,Nat.reduceEqDiff,reduceCtorEq]
         (repeat' (first|(with_reducible refine aI ?_ ?_)|(first|(first|refine gF ?_ ?_|refine gT ?_ ?_|refine cI ?_ ?_|refine pI ?_ ?_)<;>intro h|(refine dI ?_;have h:=trivial))<;>simp only[h,evS,tyS,Bv,Bf,Nat.reduceAdd,Nat.reduceSub,Nat.reduceMul,Nat.reduceLT,Nat.reduceLeDiff,Nat.reduceEqDiff,reduceCtorEq,List.reduceReplicate,Int.reduceToNat,Int.reduceLE,Int.reduceLT]))
         all_goals first|rfl|exact .inl rfl|trace_state
      ·have hgt:¬p+2≤l.length:=of_decide_eq_false (by assumption);refine loopC.intro 1 ⟨by omega,fun _=>by rintro⟨q,_⟩;omega,by omega⟩ ?_ (by omega);simp only[ws,evS,Nat.reduceSub,Nat.reduceEqDiff,reduceCtorEq]
       (repeat' (first|(with_reducible refine aI ?_ ?_)|(first|(first|refine gF ?_ ?_|refine gT ?_ ?_|refine cI ?_ ?_|refine pI ?_ ?_)<;>intro h|(refine dI ?_;have h:=trivial))<;>simp only[h,evS,tyS,Bv,Bf,Nat.reduceAdd,Nat.reduceSub,Nat.reduceMul,Nat.reduceLT,Nat.reduceLeDiff,Nat.reduceEqDiff,reduceCtorEq,List.reduceReplicate,Int.reduceToNat,Int.reduceLE,Int.reduceLT]))
       all_goals first|rfl|exact .inl rfl|trace_state
     |1,_=>
      have w1:IntKind.i64.wrap ((p:Int)+((2-1:Nat):Int))=((p+1:Nat):Int):=(i64w (by omega) (by omega)).trans (by omega);have c1:decide ((1:Int)≤((2-1:Nat):Int))=true:=by decide
      have d1:decide (((p+1:Nat):Int)≤(l.length:Int))=decide (p+1≤l.length):=by
       by_cases h:p+1≤l.length
       ·rw[decide_eq_true h,decide_eq_true];omega
       ·rw[decide_eq_false h,decide_eq_false];omega
      have ws:IntKind.i64.wrap (((2-1:Nat):Int)-1)=((2-2:Nat):Int):=by decide
      simp only[w1,zero6,c1,d1,evS,tyS,Nat.reduceSub,Nat.reduceLT,Nat.reduceEqDiff,reduceCtorEq]
      (repeat' (first|(with_reducible refine aI ?_ ?_)|(first|(first|refine gF ?_ ?_|refine gT ?_ ?_|refine cI ?_ ?_|refine pI ?_ ?_)<;>intro h|(refine dI ?_;have h:=trivial))<;>simp only[h,w1,hmd,evS,tyS,Nat.reduceLT,Nat.reduceEqDiff,reduceCtorEq,ea,Bv,Bf,Nat.reduceAdd,Nat.reduceSub,Nat.reduceMul,Nat.reduceLeDiff,List.reduceReplicate,Int.reduceToNat,Int.reduceLE,Int.reduceLT]))
      all_goals try (((try simp only[decide_eq_true_eq,decide_eq_false_iff_not]at *)<;>(try omega));done)
      ·have hle:p+1≤l.length:=of_decide_eq_true (by assumption)
       (repeat' (with_reducible refine aI ?_ ?_))
       all_goals try omega
       refine CallK.intro b44 rfl (refIsMark_ev _) ?_;have etk:p+1-p=1:=by omega
       rw[etk];cases hmk:marksL.contains (List.take 1 (List.drop p l))with
       |true=>
        have hM:markN (l.drop p)=1:=by rw[hmr];rw[if_neg (hj2 (by omega)),if_pos hmk]
        rw[hM,if_neg (by decide)]at hh;simp only[w1,hmd,etk,evS,tyS,Nat.reduceAdd,Nat.reduceLT,Nat.reduceLeDiff,Nat.reduceEqDiff,reduceCtorEq]
        (repeat' (first|(with_reducible refine aI ?_ ?_)|(first|(first|refine gF ?_ ?_|refine gT ?_ ?_|refine cI ?_ ?_|refine pI ?_ ?_)<;>intro h|(refine dI ?_;have h:=trivial))<;>simp only[h,w1,ea,hmd,etk,evS,tyS,Bv,Bf,Nat.reduceAdd,Nat.reduceSub,Nat.reduceMul,Nat.reduceLT,Nat.reduceLeDiff,Nat.reduceEqDiff,reduceCtorEq,List.reduceReplicate,Int.reduceToNat,Int.reduceLE,Int.reduceLT]))
        all_goals try omega
        rw[hh];simp only[resTP,okTok,TokD.av,tokA,evS]
        all_goals first|done|rfl|trace_state
       |false=>
        simp only[evS,Nat.reduceLT,Nat.reduceEqDiff,reduceCtorEq];refine loopC.intro 2 ⟨by omega,?_,?_⟩ ?_ (by omega)
        ·intro _;exact hj2 (by omega)
        ·intro _;first|decide|(rw[hmk];decide)|simp_all
        ·simp only[ws,evS,Nat.reduceSub,Nat.reduceEqDiff,reduceCtorEq]
         (repeat' (first|(with_reducible refine aI ?_ ?_)|(first|(first|refine gF ?_ ?_|refine gT ?_ ?_|refine cI ?_ ?_|refine pI ?_ ?_)<;>intro h|(refine dI ?_;have h:=trivial))<;>simp only[h,evS,tyS,Bv,Bf,Nat.reduceAdd,Nat.reduceSub,Nat.reduceMul,Nat.reduceLT,Nat.reduceLeDiff,Nat.reduceEqDiff,reduceCtorEq,List.reduceReplicate,Int.reduceToNat,Int.reduceLE,Int.reduceLT]))
         all_goals first|rfl|exact .inl rfl|trace_state
     |2,_=>
      have c1:decide ((1:Int)≤((2-2:Nat):Int))=false:=by decide
      have hM:markN (l.drop p)=0:=by rw[hmr,if_neg (hj2 (by omega)),if_neg (hj3 (by omega))]
      rw[hM,if_pos rfl]at hh;rw[hh];simp only[zero6,c1,resTP,errTok,tokA,f0,evS,tyS,Nat.reduceAdd,Nat.reduceSub,Nat.reduceLT,Nat.reduceLeDiff,Nat.reduceEqDiff,reduceCtorEq]
open Go Go.Ev Go.RowKit
def GlW(γ:List (Nat×AV)):Prop:=∀ k,Go.Ev.look γ k=.bad∨∃ x:Value,Go.Ev.look γ k=AV.ela false [.v x]
def glOK(γ:List (Nat×AV))(W:World):Prop:=∀ k x,Go.Ev.look γ k=AV.ela false [.v x]→k<W.heap.size∧W.cell? ⟨k,0,none⟩=some x
theorem gl_rel(hγ:GlW γ){W:World}(h:glOK γ W){c:Cx}(hw:c.w=W)(hok:∀ r,r<W.heap.size→c.ok false r)(k:Nat):treeA (Go.Ev.look γ k)=true∧rel (Go.Ev.look γ k) c (.pointer (some ⟨k,0,none⟩)):=by
 rcases hγ k with e|⟨x,e⟩
 ·rw[e];exact⟨rfl,by simp only[rel]⟩
 ·obtain⟨h1,h2⟩:=h k x e;rw[e];refine⟨by simp[treeA],?_⟩;simp only[rel,relAt];exact⟨k,0,rfl,hok k h1,⟨x,by show c.w.cell? _=_;rw[hw];exact h2,rfl⟩,trivial⟩
theorem gl_of_rel{c:Cx}{W:World}(hw:c.w=W)(hlt:∀ r,c.ok false r→r<W.heap.size)(h:∀ k,rel (Go.Ev.look γ k) c (.pointer (some ⟨k,0,none⟩))):glOK γ W:=by
 intro k x e;have:=h k;rw[e]at this;simp only[rel,relAt,Cx.shut]at this;obtain⟨r,off,e1,h2,⟨u,h3,rfl⟩,_⟩:=this;cases e1;exact⟨hlt _ h2,by rw[←hw];exact h3⟩
theorem relAt_bytes{c c':Cx}(hw:c'.w=c.w){r:Nat}:∀ (l:List UInt8) (off:Nat),relAt (l.map byteC) c r off→relAt (l.map byteC) c' r off
 |[],_,_=>trivial
 |x::l,off,h=>by
  simp only[BA,relAt]at h⊢;refine⟨?_,relAt_bytes hw l (off+1) h.2⟩;obtain⟨u,h1,h2⟩:=h.1;exact⟨u,by rw[hw];exact h1,by simpa[byteC,rel]using h2⟩
theorem rel_bytes{c c':Cx}(hw:c'.w=c.w){b b':Bool}{l:List UInt8}{n m:Nat}{u:Value}(hok:∀ r,c.ok b r→c'.ok b' r)(h:rel (.sl b n m (l.map byteC)) c u):rel (.sl b' n m (l.map byteC)) c' u:=by
 simp only[rel]at h⊢;obtain⟨r,off,cap,e,h1,h2,h3,h4⟩:=h;exact⟨r,off,cap,e,h1,h2,hok r h3,relAt_bytes (by exact hw) l off h4⟩
def allX(P:Program)(W:World):Cx:=cx0 P (fun _=>False) (fun _=>True) W
def eachBase(γ:List (Nat×AV))(l:List UInt8)(Nb:Nat)(W:World):Prop:=
 (∃ u fr,W.heap[Nb]?=some (.cells #[u] 37 fr)∧rel (.sl false l.length l.length (l.map byteC)) (allX Tp W) u)∧glOK γ W
def eachItems(l:List UInt8):List ((TokD×Nat)×Int):=if 32768<l.length then [((zeroT,0),3)]else itemsF (l.length+1) l 0
def itemAt(L:List ((TokD×Nat)×Int))(k:Nat):(TokD×Nat)×Int:=L.getD k ((zeroT,0),0)
def itemV(x:(TokD×Nat)×Int):Value×Value:=(tokV x.1.1 x.1.2,.int .i64 x.2)
def boxA(l:List UInt8):AV:=.ela true [.sl false l.length l.length (l.map byteC)]
def eachX(P:Program)(W:World)(Nb:Nat)(h:Nb<W.heap.size):Fix:=freshX P W (fun r=>r=Nb) (fun r e=>e▸h)
theorem box_lt{l:List UInt8}{Nb:Nat}{W:World}(h:eachBase γ l Nb W):Nb<W.heap.size:=by
 obtain⟨⟨u,fr,h1,_⟩,_⟩:=h;exact (BP.1 h1).1
theorem box_rel{l:List UInt8}{Nb:Nat}{W:World}(h:eachBase γ l Nb W):rel (boxA l) (cx (eachX Tp W Nb (box_lt h)) [] [] W) (.pointer (some ⟨Nb,0,none⟩)):=by
 have hlt:=box_lt h;obtain⟨⟨u,fr,h1,h2⟩,_⟩:=h;unfold boxA;rw[rel];refine⟨Nb,0,rfl,⟨hlt,by simp,?_⟩,?_⟩
 ·show Nb=Nb;rfl
 ·simp only[relAt];refine⟨⟨u,?_,?_⟩,trivial⟩
  ·show W.cell? _=_
   unfold World.cell?;simp only[h1];rfl
  ·exact rel_bytes (c:=allX Tp W) (c':=Cx.shut (cx (eachX Tp W Nb hlt) [] [] W)) (b:=false) (b':=false) rfl (fun r hr=>⟨hr.1,by simp,by show ¬False;exact fun h=>h⟩) h2
theorem box_ptr{l:List UInt8}{Nb:Nat}{W W1:World}{hlt:Nb<W.heap.size}{φ:List Nat}{h:List ABlk}{u:Value}(hr:rel (boxA l) (cx (eachX Tp W Nb hlt) φ h W1) u)(hc:∃ v fr,W1.heap[Nb]?=some (.cells #[v] 37 fr)):u=.pointer (some ⟨Nb,0,none⟩):=by
 unfold boxA at hr;simp only[rel,relAt]at hr;obtain⟨r,off,e,⟨_,_,hB⟩,⟨x,h2,_⟩,_⟩:=hr;have hr':r=Nb:=hB;subst hr';obtain⟨v,fr,hh⟩:=hc
 have:off=0:=by
  simp only[Cx.shut,cx,World.cell?,hh]at h2;have h3:(if false=true then none else (#[v]:Array Value)[off]?)=some x:=h2;have h4:=(BP.1 (show (#[v]:Array Value)[off]?=some x from h3)).1;simp at h4
  omega
 rw[e,this]
end Go.Proofs.YtlobiioioicmhaaGreatDoor
