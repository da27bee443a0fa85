/- A part of the proof. -/
import Derived.Test.YtlobiioioicmhaaGreatDoorDQ12
set_option linter.all false
set_option maxHeartbeats 8000000
namespace Go.Proofs.YtlobiioioicmhaaGreatDoor.O
open _root_.Bool renaming not_true→Bv,not_false→Bf
open _root_.List renaming getElem?_eq_some_iff→Bs,getElem?_append_left→Ba,getElem?_set_self→Be,getElem?_set_ne→Bn,length_set→Bl,length_append→Bp,append_assoc→Bo,cons_append→Bc,nil_append→Bi,getElem?_cons_zero→Bz,getElem?_cons_succ→Bu,set_cons_zero→Bx,set_cons_succ→Bw,getElem?_map→Bm,length_map→Bk,set_append_left→Bg,take_of_length_le→Bt,length_drop→Bd,length_cons→BC,length_nil→BD,flatMap_cons→BE,mem_cons→BI,getElem?_toArray→BU,getElem?_drop→BX,getElem?_take→BY
open _root_.Nat renaming zero_le→BN
open Go.Proofs.Tryz renaming prog→Tp
open Go Go.Ev
set_option maxRecDepth 20000
variable {γ:List (Nat×AV)}
def Byt(h:List ABlk)(x:AV)(l:List UInt8):Prop:=(x=.v (.slice none 0 0)∧l=[])∨(∃ b,x=.sl b l.length l.length (l.map byteC))∨∃ i k,h[i]?=some k∧l.map byteC<+:k.cells∧x=.own i k.ver l.length
theorem byt_len{h:List ABlk}{x:AV}{l:List UInt8}(b:Byt h x l)(l1:List ABlk):lenS Tp 37 (h++l1) x=some (.v (.int .i64 l.length)):=by
 have e37:elemT Tp 37=some 5:=by kernel_rfl
 obtain⟨rfl,rfl⟩|⟨b,rfl⟩|⟨i,k,hi,_,rfl⟩:=b
 ·simp only[lenS,e37];rfl
 ·simp only[lenS,e37];rfl
 ·have e:(h++l1)[i]?=some k:=(Ba (Bs.1 hi).1).trans hi;simp only[lenS,e37,blkS,e];simp
theorem byt_sc(hγ:Gl γ)(hγ2:GlW γ){h:List ABlk}{x:AV}{l:List UInt8}(b:Byt h x l)(hl:l.length≤140737488351232)(l1:List ABlk)(s:Slots)(d:Option Tmp)(K:St→Prop)(hg:s.g=γ)(k:K (pt ⟨s,h++l1⟩ d (scanA l))):CallK Tp 58 [x] d K ⟨s,h++l1⟩:=by
 subst hg;obtain⟨rfl,rfl⟩|⟨b,rfl⟩|⟨i,b,hi,hp,rfl⟩:=b
 ·exact CallK.intro c58 rfl (lexScan_nil hγ2) k
 ·exact CallK.intro c58 rfl (lexScan_ev hγ hγ2 b l hl) k
 ·exact CallK.lend c58 _ (lend1 ((Ba (Bs.1 hi).1).trans hi) hp (bytes_v l)) (lexScan_ev hγ hγ2 true l hl) (noBor_scan l) k
theorem parse8O_ev(hγ:Gl γ)(hγ2:GlW γ){h:List ABlk}{x:AV}{l:List UInt8}(b:Byt h x l)(hl:l.length≤140737488351232):EvM Tp γ 38 [x] h (RdT (.g [.s 137,.s 90]) (fun c:Pg=>.agg c.cells) (progO l) h):=by
 have n1:∀ l,Fr NoB h (h++l):=fun l=>Fr.app _ _
 refine EvM.of Tryz.func38 rfl ?_;simp only[Tryz.f38,tyD,at_len,at_len1,set_len,set_len1,Bo,Bc,Bi,evE,tyX,Bv,Bf,Nat.reduceAdd,Nat.reduceSub,Nat.reduceMul,Nat.reduceLT,Nat.reduceLeDiff,Nat.reduceEqDiff,reduceCtorEq,List.reduceReplicate,Int.reduceToNat,Int.reduceLE,Int.reduceLT];refine CallE.intro c81 _ (dread81_ev hγ hγ2 x l (h++[(⟨0,71,[.v (.slice none 0 0),.v (.slice none 0 0)]⟩:ABlk)]) (fun l1 s d K hg k=>?_) (fun l1=>?_)) (fun r h1 hh=>?_) (fun v h1 hh=>by obtain⟨_,A,e,_⟩:=hh;cases e)
 ·rw[Bo]at k⊢;exact byt_sc hγ hγ2 b hl _ s d K hg k
 ·rw[Bo];exact byt_len b _
 obtain⟨f1,A,e,rd⟩:=hh;cases e;have hbl:(h++[(⟨0,71,[.v (.slice none 0 0),.v (.slice none 0 0)]⟩:ABlk)]).length=h.length+1:=by simp
 have k0:h1[h.length]?=some (⟨0,71,[.v (.slice none 0 0),.v (.slice none 0 0)]⟩:ABlk):=f1.at (at_len _ _ _) fun e=>e
 have hl0:=(Bs.1 k0).1
 have fs:∀ d,Fr NoB h (h1.set h.length d):=fun d=>⟨by rw[Bl];omega,fun k hk _=>by
  rw[Bn (by omega)];exact (f1.2 k (by rw[hbl];omega) fun e=>e).trans (Ba hk)⟩
 have rd2:∀ d,Rd (.g [.s 137,.s 90]) (Old h.length) (h1.set h.length d) (.agg (progO l).1.cells) A:=fun d=>rd.up (Fr.set (S:=IsI h.length) d rfl) (fun k e _=>by have e:k=h.length:=e;show k<(h++[(⟨0,71,[.v (.slice none 0 0),.v (.slice none 0 0)]⟩:ABlk)]).length;rw[hbl];omega) (fun k e _=>by have e:k<h.length:=e;show k<(h++[(⟨0,71,[.v (.slice none 0 0),.v (.slice none 0 0)]⟩:ABlk)]).length;rw[hbl];omega)
 obtain⟨x1,x2,rfl,⟨o1,g1⟩,o2,g2⟩:=rd_prog rd;have q0:∀ d,(h1.set h.length d)[h.length]?=some d:=fun d=>Be hl0
 simp only[tyD,k0,q0,o1,g1,o2,g2,setMany,Bx,Bw,Bc,Bi,intC,evE,tyX,Bv,Bf,Nat.reduceAdd,Nat.reduceSub,Nat.reduceMul,Nat.reduceLT,Nat.reduceLeDiff,Nat.reduceEqDiff,reduceCtorEq,List.reduceReplicate,Int.reduceToNat,Int.reduceLE,Int.reduceLT];exact⟨fs _,_,rfl,rd2 _⟩
theorem parseChordO_ev(hγ:Gl γ)(hγ2:GlW γ){h:List ABlk}{x:AV}{l:List UInt8}(b:Byt h x l)(hl:l.length≤140737488351232):EvM Tp γ 30 [x] h (RdT (.g (kT 59)) (fun c:Ch=>.agg c.cells) (chordO l) h):=by
 have n1:∀ l,Fr NoB h (h++l):=fun l=>Fr.app _ _
 refine EvM.of Tryz.func30 rfl ?_;simp only[Tryz.f30,tyD,at_len,at_len1,set_len,set_len1,Bo,Bc,Bi,evE,tyX,Bv,Bf,Nat.reduceAdd,Nat.reduceSub,Nat.reduceMul,Nat.reduceLT,Nat.reduceLeDiff,Nat.reduceEqDiff,reduceCtorEq,List.reduceReplicate,Int.reduceToNat,Int.reduceLE,Int.reduceLT];refine CallE.intro c71 _ (dread71_ev hγ hγ2 x l (h++[(⟨0,59,[.v (.string ⟨#[]⟩),.v (.slice none 0 0),.v (.slice none 0 0),.v (.slice none 0 0)]⟩:ABlk)]) (fun l1 s d K hg k=>?_) (fun l1=>?_)) (fun r h1 hh=>?_) (fun v h1 hh=>by obtain⟨_,A,e,_⟩:=hh;cases e)
 ·rw[Bo]at k⊢;exact byt_sc hγ hγ2 b hl _ s d K hg k
 ·rw[Bo];exact byt_len b _
 obtain⟨f1,A,e,rd⟩:=hh;cases e;have hbl:(h++[(⟨0,59,[.v (.string ⟨#[]⟩),.v (.slice none 0 0),.v (.slice none 0 0),.v (.slice none 0 0)]⟩:ABlk)]).length=h.length+1:=by simp
 have k0:h1[h.length]?=some (⟨0,59,[.v (.string ⟨#[]⟩),.v (.slice none 0 0),.v (.slice none 0 0),.v (.slice none 0 0)]⟩:ABlk):=f1.at (at_len _ _ _) fun e=>e
 have hl0:=(Bs.1 k0).1
 have fs:∀ d,Fr NoB h (h1.set h.length d):=fun d=>⟨by rw[Bl];omega,fun k hk _=>by
  rw[Bn (by omega)];exact (f1.2 k (by rw[hbl];omega) fun e=>e).trans (Ba hk)⟩
 have rd2:∀ d,Rd (.g (kT 59)) (Old h.length) (h1.set h.length d) (.agg (chordO l).1.cells) A:=fun d=>rd.up (Fr.set (S:=IsI h.length) d rfl) (fun k e _=>by have e:k=h.length:=e;show k<(h++[(⟨0,59,[.v (.string ⟨#[]⟩),.v (.slice none 0 0),.v (.slice none 0 0),.v (.slice none 0 0)]⟩:ABlk)]).length;rw[hbl];omega) (fun k e _=>by have e:k<h.length:=e;show k<(h++[(⟨0,59,[.v (.string ⟨#[]⟩),.v (.slice none 0 0),.v (.slice none 0 0),.v (.slice none 0 0)]⟩:ABlk)]).length;rw[hbl];omega)
 obtain⟨x1,x2,x3,rfl,⟨o1,g1⟩,⟨o2,g2⟩,o3,g3⟩:=rd_chord rd;have q0:∀ d,(h1.set h.length d)[h.length]?=some d:=fun d=>Be hl0
 have hfa:∀ s,flat (strC s)=some [strC s]:=fun s=>rfl
 have hoa:∀ s,oneA (strC s)=true:=fun s=>rfl
 simp only[tyD,k0,q0,o1,g1,o2,g2,o3,g3,hfa,hoa,setMany,Bx,Bw,Bc,Bi,intC,evE,tyX,Bv,Bf,Nat.reduceAdd,Nat.reduceSub,Nat.reduceMul,Nat.reduceLT,Nat.reduceLeDiff,Nat.reduceEqDiff,reduceCtorEq,List.reduceReplicate,Int.reduceToNat,Int.reduceLE,Int.reduceLT];exact⟨fs _,_,rfl,rd2 _⟩
theorem parse8N_ev(hγ:Gl γ)(hγ2:GlW γ)(b:Bool)(l:List UInt8)(hl:l.length≤140737488351232):Ev Tp γ 38 [.sl b l.length l.length (l.map byteC)] (progOA l):=by
 have hb:∀ h,Byt h (.sl b l.length l.length (l.map byteC)) l:=fun h=>.inr (.inl ⟨b,rfl⟩)
 refine Ev.ofE Tryz.func38 rfl ?_;simp only[Tryz.f38,tyD,evE,tyX,Bv,Bf,Nat.reduceAdd,Nat.reduceSub,Nat.reduceMul,Nat.reduceLT,Nat.reduceLeDiff,Nat.reduceEqDiff,reduceCtorEq,List.reduceReplicate,Int.reduceToNat,Int.reduceLE,Int.reduceLT];refine CallE.intro c81 _ (dread81_ev hγ hγ2 _ l [⟨0,71,[.v (.slice none 0 0),.v (.slice none 0 0)]⟩] (fun l1 s d K hg k=>byt_sc hγ hγ2 (hb _) hl l1 s d K hg k) (fun l1=>byt_len (hb _) l1)) (fun r h1 hh=>?_) (fun v h1 hh=>by obtain⟨_,A,e,_⟩:=hh;cases e);obtain⟨f1,A,e,rd⟩:=hh;cases e;have k0:h1[0]?=some ⟨0,71,[.v (.slice none 0 0),.v (.slice none 0 0)]⟩:=f1.at rfl fun e=>e
 have hl0:=(Bs.1 k0).1;have rd2:∀ d,Rd (.g [.s 137,.s 90]) NoB (h1.set 0 d) (.agg (progO l).1.cells) A:=fun d=>rd.up (Fr.set (S:=IsI 0) d rfl) (fun k e _=>by have e:k=0:=e;subst e;show 0<1;decide) (fun k e _=>e.elim)
 obtain⟨x1,x2,rfl,⟨o1,g1⟩,o2,g2⟩:=rd_prog rd;have q0:∀ d,(h1.set 0 d)[0]?=some d:=fun d=>Be hl0
 simp only[tyD,k0,q0,o1,g1,o2,g2,setMany,Bx,Bw,Bc,Bi,progOA,intC,evE,tyX,Bv,Bf,Nat.reduceAdd,Nat.reduceSub,Nat.reduceMul,Nat.reduceLT,Nat.reduceLeDiff,Nat.reduceEqDiff,reduceCtorEq,List.reduceReplicate,Int.reduceToNat,Int.reduceLE,Int.reduceLT];exact (rd2 _).fz
end Go.Proofs.YtlobiioioicmhaaGreatDoor.O
namespace Go.Proofs.YtlobiioioicmhaaGreatDoor
open _root_.Bool renaming not_true→Bv,not_false→Bf
open _root_.List renaming getElem?_eq_some_iff→Bs,getElem?_append_left→Ba,getElem?_set_self→Be,getElem?_set_ne→Bn,length_set→Bl,length_append→Bp,append_assoc→Bo,cons_append→Bc,nil_append→Bi,getElem?_cons_zero→Bz,getElem?_cons_succ→Bu,set_cons_zero→Bx,set_cons_succ→Bw,getElem?_map→Bm,length_map→Bk,set_append_left→Bg,take_of_length_le→Bt,length_drop→Bd,length_cons→BC,length_nil→BD,flatMap_cons→BE,mem_cons→BI,getElem?_toArray→BU,getElem?_drop→BX,getElem?_take→BY
open _root_.Nat renaming zero_le→BN
open Go.Proofs.Tryz renaming prog→Tp
open Go Go.Ev
abbrev S8:=Nat×Option (Int×Int)
variable (ts:List Tk) (n:Nat)
variable {ts n}
set_option maxRecDepth 20000
variable {γ:List (Nat×AV)} {ts:List Tk} {L:AV}
def okS(ts:List Tk)(S:S8):Prop:=S.1≤ts.length∧∀ b,S.2=some b→b.1≠0
theorem c80:bodyT Tp 80:=⟨_,Tryz.func80,by kernel_rfl,by kernel_rfl⟩
def Ac.av(a:Ac):AV:=.agg a.cells
variable {γ:List (Nat×AV)}
theorem tyW:aggT Tp 115=some true∧
  aggT Tp 25=some true∧
  aggT Tp 39=some false∧
  aggT Tp 5=some false∧
  aggT Tp 57=some false∧
  appT Tp 37 37=some (5,1,1)∧
  elemT Tp 128=some 9∧
  elemT Tp 133=some 41∧
  elemT Tp 39=some 115∧
  elemT Tp 56=some 130∧
  elemT Tp 57=some 135∧
  elemT Tp 68=some 137∧
  elemT Tp 69=some 90∧
  elemT Tp 78=some 3∧
  elemT Tp 88=some 59∧
  fieldT Tp 115 0=some (0,3)∧
  fieldT Tp 115 1=some (1,3)∧
  fieldT Tp 115 2=some (2,3)∧
  fieldT Tp 115 3=some (3,9)∧
  fieldT Tp 115 4=some (4,25)∧
  fieldT Tp 130 0=some (0,9)∧
  fieldT Tp 135 0=some (0,3)∧
  fieldT Tp 135 1=some (1,41)∧
  fieldT Tp 137 0=some (0,9)∧
  fieldT Tp 25 0=some (0,3)∧
  fieldT Tp 41 0=some (0,39)∧
  fieldT Tp 59 0=some (0,9)∧
  fieldT Tp 90 0=some (0,9)∧
  binS.isBoolT Tp 4=true∧
  mkT Tp 37=some (5,1,[.v (.int .u8 0)])∧
  sizeT Tp 115=some 9∧
  sizeT Tp 25=some 5∧
  sizeT Tp 39=some 1∧
  zcT Tp 115=some [.v (.int .i64 0),.v (.int .i64 0),.v (.int .i64 0),.v (.string ⟨#[]⟩),.v (.int .i64 0),.v (.int .i64 0),.v (.float .f64 0),.v (.complex .f64 0 0),.v (.string ⟨#[]⟩)]:=
 (by and_intros<;>kernel_rfl)
theorem c75:bodyT Tp 75:=⟨_,Tryz.func75,by kernel_rfl,by kernel_rfl⟩
def txS(γ:List (Nat×AV))(A:AV)(k:Nat):St:=⟨⟨26,[(0,A),(1,A),(5,.v (.int .i64 (k:Int)))],γ⟩,[]⟩
theorem lenStr(s:List ABlk)(l:List (List UInt8)):lenS Tp 128 s (strsA l)=some (.v (.int .i64 l.length)):=by
 have e:elemT Tp 128=some 9:=by kernel_rfl
 cases l with
 |nil=>simp only[strsA,slA,BD,lenS,e];rfl
 |cons x l=>simp only[strsA,slA,BC,lenS,e];rfl
theorem strsA_sl{l:List (List UInt8)}{k:Nat}{x:List UInt8}(h:l[k]?=some x):strsA l=.sl false l.length l.length (l.map strC):=by
 cases l with
 |nil=>cases h
 |cons y l=>rfl
theorem texts_ev(l:List (List UInt8))(hn:l.length≤2000000):Ev Tp γ 75 [strsA l,strsA l] (.v (.bool true)):=by
 have ll:=fun s=>lenStr s l
 have d0:(((l.length:Nat):Int) != ((l.length:Nat):Int))=false:=by simp
 refine Ev.ofE Tryz.func75 rfl ?_;simp only[Tryz.f75,ll,d0,evE,Nat.reduceAdd,Nat.reduceSub,Nat.reduceLT,Nat.reduceEqDiff,reduceCtorEq];refine LoopE.intro (txS γ (strsA l)) (fun k=>k≤l.length) (fun k=>l.length-k) 0 ⟨rfl,rfl,⟨rfl,rfl,rfl,trivial⟩,rfl⟩ (BN _) (fun k hk=>?_)
 by_cases hlt:k<l.length
 ·have d1:decide (k<l.length)=true:=decide_eq_true hlt;obtain⟨x,hx⟩:∃ x,l[k]?=some x:=⟨l[k],by simp[hlt]⟩;have eS:=strsA_sl hx;have hc:(l.map strC)[k]?=some (.v (.string ⟨x.toArray⟩)):=by rw[Bm,hx];rfl
  have w1:IntKind.i64.wrap ((k:Int)+1)=((k+1:Nat):Int):=(i64w (by omega) (by omega)).trans (by omega);have dx:(x != x)=false:=by simp
  simp only[txS,ll,d1,evE,Nat.reduceLT,Nat.reduceEqDiff,reduceCtorEq];refine dI ?_;simp only[tyW,eS,hc,w1,evE,tyX,Bv,Nat.reduceLT,Nat.reduceEqDiff,reduceCtorEq];exact⟨hlt,hlt,loopCE.intro (k+1) hlt ⟨rfl,rfl,⟨rfl,rfl,rfl,trivial⟩,rfl⟩ (by show l.length-(k+1)<l.length-k;clear w1;omega)⟩
 ·have d1:decide (k<l.length)=false:=decide_eq_false hlt;simp only[txS,ll,d1,evE,Nat.reduceLT,Nat.reduceEqDiff,reduceCtorEq]
theorem c181:bodyT Tp 181:=⟨_,Tryz.func181,by kernel_rfl,by kernel_rfl⟩
def tsS(γ:List (Nat×AV))(s:List UInt8)(k:Nat):St:=⟨⟨42,[(0,.v (.string ⟨s.toArray⟩)),(1,.v (.string ⟨s.toArray⟩)),(5,.v (.int .i64 (k:Int)))],γ⟩,[]⟩
theorem rtexts_self(s:List UInt8)(hs:s.length≤140737488351232):Ev Tp γ 181 [.v (.string ⟨s.toArray⟩),.v (.string ⟨s.toArray⟩)] (.v (.int .i64 0)):=by
 refine Ev.of Tryz.func181 rfl ?_;simp only[Tryz.f181,evS,Nat.reduceAdd,Nat.reduceSub,Nat.reduceLT];refine LoopK.intro (tsS γ s) (fun k=>k≤s.length) (fun k=>s.length-k) 0 ⟨rfl,rfl,⟨rfl,rfl,rfl,trivial⟩,.inl rfl⟩ (BN _) (fun k hk=>?_)
 by_cases hlt:k<s.length
 ·have d1:decide (k<s.length)=true:=decide_eq_true hlt;have w1:IntKind.i64.wrap ((k:Int)+1)=((k+1:Nat):Int):=(i64w (by omega) (by omega)).trans (by omega);have dx:decide ((s.getD k 0).toNat<(s.getD k 0).toNat)=false:=decide_eq_false (Nat.lt_irrefl _);simp only[tsS,d1,evS,tyS,Nat.reduceLT,Nat.reduceEqDiff,reduceCtorEq]
  (repeat' (first|(with_reducible refine aI ?_ ?_)|(first|(first|refine gF ?_ ?_|refine gT ?_ ?_|refine cI ?_ ?_|refine pI ?_ ?_)<;>intro h|(refine dI ?_;have h:=trivial))<;>simp only[h,tyV,d1,dx,w1,evS,tyS,Bv,Bf,Nat.reduceAdd,Nat.reduceSub,Nat.reduceMul,Nat.reduceLT,Nat.reduceLeDiff,Nat.reduceEqDiff,reduceCtorEq,List.reduceReplicate,Int.reduceToNat,Int.reduceLE,Int.reduceLT]))
  all_goals first|exact hlt|exact loopC.intro (k+1) hlt ⟨rfl,rfl,⟨rfl,rfl,rfl,trivial⟩,.inl rfl⟩ (by show s.length-(k+1)<s.length-k;clear w1;omega)|trace_state
 ·have d1:decide (k<s.length)=false:=decide_eq_false hlt;have hk2:k=s.length:=by omega
  have dx:decide (s.length<s.length)=false:=decide_eq_false (Nat.lt_irrefl _);have dy:decide ((s.length:Int)<(s.length:Int))=false:=decide_eq_false (Int.lt_irrefl _);simp only[tsS,d1,dx,evS,tyS,Nat.reduceLT,Nat.reduceEqDiff,reduceCtorEq]
  (repeat' (first|(with_reducible refine aI ?_ ?_)|(first|(first|refine gF ?_ ?_|refine gT ?_ ?_|refine cI ?_ ?_|refine pI ?_ ?_)<;>intro h|(refine dI ?_;have h:=trivial))<;>simp only[h,tyV,d1,dx,dy,evS,tyS,Bv,Bf,Nat.reduceAdd,Nat.reduceSub,Nat.reduceMul,Nat.reduceLT,Nat.reduceLeDiff,Nat.reduceEqDiff,reduceCtorEq,List.reduceReplicate,Int.reduceToNat,Int.reduceLE,Int.reduceLT]))
  all_goals trace_state
theorem cmp_self(v:VD)(h3:v.kind≠3)(hr:v.real<18446744073709551616)(ht:v.text.length≤140737488351232):Ev Tp γ 111 [vA v,vA v] (.v (.int .i64 0)):=by
 refine Ev.of Tryz.func111 rfl ?_;have k1:Ev Tp γ 54 [vA v] (.v (.bool (mayF v))):=rmay_ev (γ:=γ) v;have kr:=reals_ev (γ:=γ) v.real v.real hr hr (.inl rfl);have kt:=rtexts_self (γ:=γ) v.text ht;have z1:(v.kind != v.kind)=false:=by simp
 have z3:(v.kind==3)=false:=by simpa using h3
 have dx:decide (v.int<v.int)=false:=decide_eq_false (Int.lt_irrefl _);simp only[vA,vC]at k1⊢;simp only[Tryz.f111,evS,Nat.reduceAdd,Nat.reduceSub,Nat.reduceLT,Nat.reduceEqDiff,reduceCtorEq]
 (repeat' (first|(with_reducible refine aI ?_ ?_)|(first|(first|refine gF ?_ ?_|refine gT ?_ ?_|refine cI ?_ ?_|refine pI ?_ ?_)<;>intro h|(refine dI ?_;have h:=trivial))<;>simp only[h,tyV,evS,tyS,Bv,Bf,Nat.reduceAdd,Nat.reduceSub,Nat.reduceMul,Nat.reduceLT,Nat.reduceLeDiff,Nat.reduceEqDiff,reduceCtorEq,List.reduceReplicate,Int.reduceToNat,Int.reduceLE,Int.reduceLT]))
 refine CallK.intro c54 rfl k1 ?_;simp only[tyV,evS,Nat.reduceAdd,Nat.reduceLT,Nat.reduceLeDiff,Nat.reduceEqDiff,reduceCtorEq]
 (repeat' (first|(with_reducible refine aI ?_ ?_)|(first|(first|refine gF ?_ ?_|refine gT ?_ ?_|refine cI ?_ ?_|refine pI ?_ ?_)<;>intro h|(refine dI ?_;have h:=trivial))<;>simp only[h,tyV,evS,tyS,Bv,Bf,Nat.reduceAdd,Nat.reduceSub,Nat.reduceMul,Nat.reduceLT,Nat.reduceLeDiff,Nat.reduceEqDiff,reduceCtorEq,List.reduceReplicate,Int.reduceToNat,Int.reduceLE,Int.reduceLT]))
 refine CallK.intro c54 rfl k1 ?_;cases hm:mayF v with
 |false=>
  simp only[evS,Bf,Nat.reduceLT,Nat.reduceEqDiff,reduceCtorEq]
  (repeat' (first|(with_reducible refine aI ?_ ?_)|(first|(first|refine gF ?_ ?_|refine gT ?_ ?_|refine cI ?_ ?_|refine pI ?_ ?_)<;>intro h|(refine dI ?_;have h:=trivial))<;>simp only[h,tyV,evS,tyS,Bv,Bf,Nat.reduceAdd,Nat.reduceSub,Nat.reduceMul,Nat.reduceLT,Nat.reduceLeDiff,Nat.reduceEqDiff,reduceCtorEq,List.reduceReplicate,Int.reduceToNat,Int.reduceLE,Int.reduceLT]))
  all_goals first|done|rfl|trace_state
 |true=>
  cases z2:(v.kind==2)with
  |true=>
   simp only[tyV,z1,z2,evS,tyS,Bv,Nat.reduceLT,Nat.reduceEqDiff,reduceCtorEq]
   (repeat' (first|(with_reducible refine aI ?_ ?_)|(first|(first|refine gF ?_ ?_|refine gT ?_ ?_|refine cI ?_ ?_|refine pI ?_ ?_)<;>intro h|(refine dI ?_;have h:=trivial))<;>simp only[h,tyV,z1,z2,evS,tyS,Bv,Bf,Nat.reduceAdd,Nat.reduceSub,Nat.reduceMul,Nat.reduceLT,Nat.reduceLeDiff,Nat.reduceEqDiff,reduceCtorEq,List.reduceReplicate,Int.reduceToNat,Int.reduceLE,Int.reduceLT]))
   refine CallK.intro c180 rfl kr ?_;simp only[evS,Nat.reduceLT,Nat.reduceEqDiff,reduceCtorEq]
   (repeat' (first|(with_reducible refine aI ?_ ?_)|(first|(first|refine gF ?_ ?_|refine gT ?_ ?_|refine cI ?_ ?_|refine pI ?_ ?_)<;>intro h|(refine dI ?_;have h:=trivial))<;>simp only[h,tyV,evS,tyS,Bv,Bf,Nat.reduceAdd,Nat.reduceSub,Nat.reduceMul,Nat.reduceLT,Nat.reduceLeDiff,Nat.reduceEqDiff,reduceCtorEq,List.reduceReplicate,Int.reduceToNat,Int.reduceLE,Int.reduceLT]))
   all_goals first|done|rfl|trace_state
  |false=>
   cases z4:(v.kind==4)with
   |true=>
    simp only[tyV,z1,z2,z3,z4,evS,tyS,Bv,Nat.reduceLT,Nat.reduceEqDiff,reduceCtorEq]
    (repeat' (first|(with_reducible refine aI ?_ ?_)|(first|(first|refine gF ?_ ?_|refine gT ?_ ?_|refine cI ?_ ?_|refine pI ?_ ?_)<;>intro h|(refine dI ?_;have h:=trivial))<;>simp only[h,tyV,z1,z2,z3,z4,evS,tyS,Bv,Bf,Nat.reduceAdd,Nat.reduceSub,Nat.reduceMul,Nat.reduceLT,Nat.reduceLeDiff,Nat.reduceEqDiff,reduceCtorEq,List.reduceReplicate,Int.reduceToNat,Int.reduceLE,Int.reduceLT]))
    refine CallK.intro c181 rfl kt ?_;simp only[evS,Nat.reduceLT,Nat.reduceEqDiff,reduceCtorEq]
    (repeat' (first|(with_reducible refine aI ?_ ?_)|(first|(first|refine gF ?_ ?_|refine gT ?_ ?_|refine cI ?_ ?_|refine pI ?_ ?_)<;>intro h|(refine dI ?_;have h:=trivial))<;>simp only[h,tyV,evS,tyS,Bv,Bf,Nat.reduceAdd,Nat.reduceSub,Nat.reduceMul,Nat.reduceLT,Nat.reduceLeDiff,Nat.reduceEqDiff,reduceCtorEq,List.reduceReplicate,Int.reduceToNat,Int.reduceLE,Int.reduceLT]))
    all_goals first|done|rfl|trace_state
   |false=>
    simp only[tyV,z1,z2,z3,z4,dx,evS,tyS,Bv,Nat.reduceLT,Nat.reduceEqDiff,reduceCtorEq]
    (repeat' (first|(with_reducible refine aI ?_ ?_)|(first|(first|refine gF ?_ ?_|refine gT ?_ ?_|refine cI ?_ ?_|refine pI ?_ ?_)<;>intro h|(refine dI ?_;have h:=trivial))<;>simp only[h,tyV,z1,z2,z3,z4,dx,evS,tyS,Bv,Bf,Nat.reduceAdd,Nat.reduceSub,Nat.reduceMul,Nat.reduceLT,Nat.reduceLeDiff,Nat.reduceEqDiff,reduceCtorEq,List.reduceReplicate,Int.reduceToNat,Int.reduceLE,Int.reduceLT]))
    all_goals first|done|rfl|trace_state
theorem same_self(v:VD)(h3:v.kind≠3)(hr:v.real<18446744073709551616)(ht:v.text.length≤140737488351232):Ev Tp γ 57 [vA v,vA v] (.v (.bool true)):=same_of (cmp_self v h3 hr ht)
theorem tyL:aggT Tp 115=some true∧
  aggT Tp 2=some false∧
  aggT Tp 22=some false∧
  aggT Tp 23=some false∧
  aggT Tp 25=some true∧
  aggT Tp 3=some false∧
  aggT Tp 39=some false∧
  aggT Tp 41=some true∧
  aggT Tp 5=some false∧
  aggT Tp 9=some false∧
  appT Tp 37 37=some (5,1,1)∧
  elemT Tp 37=some 5∧
  elemT Tp 39=some 115∧
  fieldT Tp 115 0=some (0,3)∧
  fieldT Tp 115 1=some (1,3)∧
  fieldT Tp 115 2=some (2,3)∧
  fieldT Tp 115 3=some (3,9)∧
  fieldT Tp 115 4=some (4,25)∧
  fieldT Tp 25 0=some (0,3)∧
  fieldT Tp 25 1=some (1,2)∧
  fieldT Tp 25 2=some (2,22)∧
  fieldT Tp 25 3=some (3,23)∧
  fieldT Tp 25 4=some (4,9)∧
  fieldT Tp 41 0=some (0,39)∧
  fltT Tp 9=none∧
  intT Tp 5=some .u8∧
  intT Tp 9=none∧
  mkT Tp 37=some (5,1,[.v (.int .u8 0)])∧
  sizeT Tp 115=some 9∧
  sizeT Tp 2=some 1∧
  sizeT Tp 22=some 1∧
  sizeT Tp 23=some 1∧
  sizeT Tp 25=some 5∧
  sizeT Tp 3=some 1∧
  sizeT Tp 39=some 1∧
  sizeT Tp 41=some 1∧
  sizeT Tp 5=some 1∧
  sizeT Tp 9=some 1∧
  strT Tp 37=false∧
  strT Tp 9=true∧
  (Tryz.prog.underlying 37).isSome=true∧
  zcT Tp 115=some [.v (.int .i64 0),.v (.int .i64 0),.v (.int .i64 0),.v (.string ⟨#[]⟩),.v (.int .i64 0),.v (.int .i64 0),.v (.float .f64 0),.v (.complex .f64 0 0),.v (.string ⟨#[]⟩)]∧
  zcT Tp 25=some [.v (.int .i64 0),.v (.int .i64 0),.v (.float .f64 0),.v (.complex .f64 0 0),.v (.string ⟨#[]⟩)]∧
  zcT Tp 41=some [.v (.slice none 0 0)]:=
 (by and_intros<;>kernel_rfl)
theorem DrawK.via{P:Program}{ops:Array Oper}{Q:Post}{s:St}(F:St→Prop)(h:∀ K:Post,(∀ s',F s'→K .normal s')→DrawK P ops K s)(h2:∀ s',F s'→Q .normal s'):DrawK P ops Q s:=h Q h2
def Nd.valC(n:Nd):List AV:=[.v (.int .i64 n.vk),.v (.int .i64 n.vi),.v (.float .f64 n.vr),.v (.complex .f64 0 0),.v (.string ⟨n.vt.toArray⟩)]
theorem lenS39(s:List ABlk)(ns:List Nd):lenS Tp 39 s (nodesA ns)=some (.v (.int .i64 ns.length)):=by
 have e24:elemT Tp 39=some 115:=by kernel_rfl
 cases ns with
 |nil=>simp only[nodesA,lenS,e24];rfl
 |cons y T=>simp only[nodesA,lenS,e24];rfl
theorem one_nodes(ns:List Nd):oneA (nodesA ns)=true:=by cases ns<;>rfl
theorem nodesA_sl{ns:List Nd}{i:Nat}{nd:Nd}(h:ns[i]?=some nd):nodesA ns=.sl false ns.length ns.length (ndCells ns):=by
 cases ns with
 |nil=>cases h
 |cons x r=>rfl
theorem c74:bodyT Tp 74:=⟨_,Tryz.func74,by kernel_rfl,by kernel_rfl⟩
theorem c57':bodyT Tp 57:=⟨_,Tryz.func57,by kernel_rfl,by kernel_rfl⟩
def okNd(nd:Nd):Prop:=nd.vk≠3∧nd.vr<18446744073709551616∧nd.vt.length≤140737488351232
def exS8(γ:List (Nat×AV))(ns:List Nd)(i:Nat):St:=⟨⟨81,[(2,.ptr 0 0 0),(3,.ptr 1 0 0),(5,.v (.int .i64 (i:Int)))],γ⟩,[⟨0,41,[nodesA ns]⟩,⟨0,41,[nodesA ns]⟩]⟩
theorem node_same{nd:Nd}(h:okNd nd):Ev Tp γ 57 [.agg nd.valC,.agg nd.valC] (.v (.bool true)):=same_self ⟨nd.vk,nd.vi,nd.vr,0,0,nd.vt⟩ h.1 h.2.1 h.2.2
theorem exprs_ev(ns:List Nd)(hb:ns.length≤2000000)(hok:∀ nd∈ns,okNd nd):Ev Tp γ 74 [.agg [nodesA ns],.agg [nodesA ns]] (.v (.bool true)):=by
 have ll:=fun s=>lenS39 s ns
 have fo:=one_nodes ns;refine Ev.of Tryz.func74 rfl ?_;have d1:(((ns.length:Nat):Int) != ((ns.length:Nat):Int))=false:=by simp
 simp only[Tryz.f74,tyW,fo,ll,d1,evE,tyX,Nat.reduceAdd,Nat.reduceSub,Nat.reduceLT,Nat.reduceEqDiff,reduceCtorEq];refine LoopK.intro (exS8 γ ns) (fun i=>i≤ns.length) (fun i=>ns.length-i) 0 ⟨rfl,rfl,⟨rfl,rfl,rfl,trivial⟩,.inl rfl⟩ (BN _) (fun i hi=>?_)
 by_cases hlt:i<ns.length
 ·have d2:decide (i<ns.length)=true:=decide_eq_true hlt;obtain⟨nd,hnd⟩:∃ nd,ns[i]?=some nd:=⟨ns[i],by simp[hlt]⟩;have eN:=nodesA_sl hnd;have h9:=ndCells_take9 hnd;have h9l:9≤((ndCells ns).drop (i * 9)).length:=by rw[Bd,ndCells_length];omega
  have w1:IntKind.i64.wrap ((i:Int)+1)=((i+1:Nat):Int):=(i64w (by omega) (by omega)).trans (by omega);simp only[exS8,tyW,ll,d2,evE,tyX,Nat.reduceLT,Nat.reduceEqDiff,reduceCtorEq];refine DrawK.via (fun s'=>∃ l0,s'=⟨⟨81,l0,γ⟩,[⟨0,41,[nodesA ns]⟩,⟨0,41,[nodesA ns]⟩,⟨0,115,nd.cells⟩,⟨0,115,nd.cells⟩]⟩∧Go.Ev.look l0 2=.ptr 0 0 0∧Go.Ev.look l0 3=.ptr 1 0 0∧Go.Ev.look l0 5=.v (.int .i64 (i:Int))∧((Go.Ev.look l0 6=.ptr 2 0 0∧Go.Ev.look l0 7=.ptr 3 0 0)∨(Go.Ev.look l0 6=.ptr 3 0 0∧Go.Ev.look l0 7=.ptr 2 0 0))) (fun K hK=>?_) (fun s' hs'=>?_)
  ·refine DrawK.orders2 [[0,1,2,3,4,5,6,7,8,9,10,11,12,13],[0,1,2,3,4,5,6,7,8,9,11,10,12,13],[0,1,2,3,4,10,11,12,5,6,7,8,9,13],[0,1,2,3,4,5,10,11,12,6,7,8,9,13],[0,1,2,3,4,5,6,10,11,12,7,8,9,13],[0,1,2,3,4,5,6,7,10,11,12,8,9,13],[0,1,2,3,4,5,6,7,8,10,11,12,9,13],[0,1,2,3,4,11,10,12,5,6,7,8,9,13],[0,1,2,3,4,5,11,10,12,6,7,8,9,13],[0,1,2,3,4,5,6,11,10,12,7,8,9,13],[0,1,2,3,4,5,6,7,11,10,12,8,9,13],[0,1,2,3,4,5,6,7,8,11,10,12,9,13]] (by kernel_rfl) (by kernel_rfl) (by kernel_rfl) (fun p hp=>?_);simp only[BI,List.not_mem_nil,or_false]at hp
   rcases hp with rfl|rfl|rfl|rfl|rfl|rfl|rfl|rfl|rfl|rfl|rfl|rfl
   all_goals simp only[seqT,BU,Bu,Bz,tyW,eN,h9,h9l,Nd.cells,evE,tyX,Nat.reduceAdd,Nat.reduceLT,Nat.reduceLeDiff,Nat.reduceEqDiff,reduceCtorEq]
   all_goals simp only[eN]at hK
   all_goals refine⟨hlt,hlt,hK _ ⟨_,rfl,?_⟩⟩
   all_goals simp only[evE,Nat.reduceEqDiff]
  ·obtain⟨l0,rfl,a2,a3,a5,hii⟩:=hs';have hs:=node_same (γ:=γ) (hok nd (List.mem_of_getElem? hnd));have z1:(nd.k != nd.k)=false:=by simp
   have z2:(nd.a != nd.a)=false:=by simp
   have z3:(nd.b != nd.b)=false:=by simp
   have z4:(nd.nm != nd.nm)=false:=by simp
   have z5:(nd.vk != nd.vk)=false:=by simp
   simp only[Nd.valC]at hs
   rcases hii with⟨a6,a7⟩|⟨a6,a7⟩
   all_goals cases z6:(nd.vk != 0)with
    |false=>
     simp only[tyW,a5,a6,a7,Nd.cells,z1,z2,z3,z5,z6,w1,evE,tyX,Bv,Nat.reduceLT,Nat.reduceEqDiff,reduceCtorEq];exact loopC.intro (i+1) hlt ⟨rfl,rfl,⟨by simp only[a2,evE,Nat.reduceEqDiff],by simp only[a3,evE,Nat.reduceEqDiff],rfl,trivial⟩,.inr ⟨rfl,rfl,by cases ns<;>rfl⟩⟩ (by show ns.length-(i+1)<ns.length-i;clear w1;omega)
    |true=>
     simp only[tyW,a6,a7,Nd.cells,z1,z2,z3,z5,z6,evE,tyX,Bv,Nat.reduceAdd,Nat.reduceLT,Nat.reduceLeDiff,Nat.reduceEqDiff,reduceCtorEq];refine CallK.intro c57' rfl hs ?_;simp only[a5,w1,evE,Bv,Nat.reduceLT,Nat.reduceEqDiff,reduceCtorEq];exact loopC.intro (i+1) hlt ⟨rfl,rfl,⟨by simp only[a2,evE,Nat.reduceEqDiff],by simp only[a3,evE,Nat.reduceEqDiff],rfl,trivial⟩,.inr ⟨rfl,rfl,by cases ns<;>rfl⟩⟩ (by show ns.length-(i+1)<ns.length-i;clear w1;omega)
 ·have d2:decide (i<ns.length)=false:=decide_eq_false hlt;simp only[exS8,tyW,ll,d2,evE,tyX,Nat.reduceLT,Nat.reduceEqDiff,reduceCtorEq]
theorem c76:bodyT Tp 76:=⟨_,Tryz.func76,by kernel_rfl,by kernel_rfl⟩
def okX(ns:List Nd):Prop:=ns.length≤2000000∧∀ nd∈ns,okNd nd
def okAc(a:Ac):Prop:=okX a.to∧a.args.length≤2000000∧∀ x∈a.args,okX x
theorem lenExps(s:List ABlk)(l:List (List Nd)):lenS Tp 133 s (expsA l)=some (.v (.int .i64 l.length)):=by
 have e:elemT Tp 133=some 41:=by kernel_rfl
 cases l with
 |nil=>simp only[expsA,slA,BD,lenS,e];rfl
 |cons x l=>simp only[expsA,slA,BC,lenS,e];rfl
theorem expsA_sl{l:List (List Nd)}{k:Nat}{x:List Nd}(h:l[k]?=some x):expsA l=.sl false l.length l.length (l.map nodesA):=by
 cases l with
 |nil=>cases h
 |cons y l=>rfl
theorem treeL_x(ns:List Nd):treeL [.agg [nodesA ns],.agg [nodesA ns]]=true:=by cases ns<;>rfl
def acS(γ:List (Nat×AV))(a:Ac)(k:Nat):St:=⟨⟨61,[(2,.ptr 0 0 0),(3,.ptr 1 0 0),(5,.v (.int .i64 (k:Int)))],γ⟩,[⟨0,135,a.cells⟩,⟨0,135,a.cells⟩]⟩
theorem acts_ev(a:Ac)(ok:okAc a):Ev Tp γ 76 [a.av,a.av] (.v (.bool true)):=by
 have ll:=fun s=>lenExps s a.args
 have hx:=exprs_ev (γ:=γ) a.to ok.1.1 ok.1.2;have fo:oneA (nodesA a.to)=true:=by cases a.to<;>rfl
 have fe:oneA (expsA a.args)=true:=by cases a.args<;>rfl
 have z1:(a.kind != a.kind)=false:=by simp
 have z2:(a.name != a.name)=false:=by simp
 have z3:(a.var != a.var)=false:=by simp
 have d1:(((a.args.length:Nat):Int) != ((a.args.length:Nat):Int))=false:=by simp
 refine Ev.ofE Tryz.func76 rfl ?_;simp only[Tryz.f76,tyD,tyW,Ac.av,Ac.cells,intC,strC,fo,fe,z1,evE,tyX,Bv,Nat.reduceAdd,Nat.reduceSub,Nat.reduceLT,Nat.reduceLeDiff,Nat.reduceEqDiff,reduceCtorEq];refine CallE.pure (CallK.intro c74 (treeL_x _) hx ?_);simp only[tyD,ll,d1,evE,Bv,Nat.reduceLT,Nat.reduceEqDiff,reduceCtorEq];refine LoopE.intro (acS γ a) (fun k=>k≤a.args.length) (fun k=>a.args.length-k) 0 ⟨rfl,rfl,⟨rfl,rfl,rfl,trivial⟩,rfl⟩ (BN _) (fun k hk=>?_)
 by_cases hlt:k<a.args.length
 ·have d2:decide (k<a.args.length)=true:=decide_eq_true hlt;obtain⟨x,hxk⟩:∃ x,a.args[k]?=some x:=⟨a.args[k],by simp[hlt]⟩;have eS:=expsA_sl hxk;have hc:(a.args.map nodesA)[k]?=some (nodesA x):=by rw[Bm,hxk];rfl
  have okx:=ok.2.2 x (List.mem_of_getElem? hxk);have hex:=exprs_ev (γ:=γ) x okx.1 okx.2;have ox:oneA (nodesA x)=true:=by cases x<;>rfl
  have h1l:1≤((a.args.map nodesA).drop k).length:=by rw[Bd,Bk];omega
  have ht1:((a.args.map nodesA).drop k).take 1=[nodesA x]:=by
   rw[List.drop_eq_getElem_cons (by rw[Bk];exact hlt)];have:(a.args.map nodesA)[k]?=some ((a.args.map nodesA)[k]'(by rw[Bk];exact hlt)):=List.getElem?_eq_getElem _;rw[hc]at this;simp only[List.take_succ_cons,List.take_zero];rw[←Option.some.inj this]
  have hn:=ok.2.1;have w1:IntKind.i64.wrap ((k:Int)+1)=((k+1:Nat):Int):=(i64w (by omega) (by omega)).trans (by omega);simp only[acS,tyD,Ac.cells,intC,strC,ll,d2,evE,Nat.reduceLT,Nat.reduceEqDiff,reduceCtorEq];refine dI ?_;simp only[tyD,tyW,eS,hc,h1l,ht1,evE,Nat.reduceLT,Nat.reduceEqDiff,reduceCtorEq];refine⟨hlt,hlt,CallK.intro c74 (treeL_x _) hex ?_⟩;simp only[w1,evE,Bv,Nat.reduceLT,Nat.reduceEqDiff,reduceCtorEq];exact loopCE.intro (k+1) hlt ⟨rfl,rfl,⟨rfl,rfl,rfl,trivial⟩,by simp only[acS,Ac.cells,intC,strC,eS]⟩ (by show a.args.length-(k+1)<a.args.length-k;clear w1;omega)
 ·have d2:decide (k<a.args.length)=false:=decide_eq_false hlt;simp only[acS,tyD,Ac.cells,intC,strC,ll,d2,evE,Nat.reduceLT,Nat.reduceEqDiff,reduceCtorEq]
def okCh(c:Ch):Prop:=c.parts.length≤2000000∧(∀ p∈c.parts,p.vars.length≤2000000)∧okX c.guard∧c.body.length≤2000000∧∀ a∈c.body,okAc a
theorem c34:bodyT Tp 34:=⟨_,Tryz.func34,by kernel_rfl,by kernel_rfl⟩
theorem lenParts(s:List ABlk)(l:List Pt):lenS Tp 56 s (partsA l)=some (.v (.int .i64 l.length)):=by
 have e:elemT Tp 56=some 130:=by kernel_rfl
 cases l with
 |nil=>simp only[partsA,slA,BD,lenS,e];rfl
 |cons x l=>simp only[partsA,slA,BC,lenS,e];rfl
theorem lenActs(s:List ABlk)(l:List Ac):lenS Tp 57 s (actsA l)=some (.v (.int .i64 l.length)):=by
 have e:elemT Tp 57=some 135:=by kernel_rfl
 cases l with
 |nil=>simp only[actsA,slA,BD,lenS,e];rfl
 |cons x l=>simp only[actsA,slA,BC,lenS,e];rfl
theorem partsA_sl{l:List Pt}{k:Nat}{x:Pt}(h:l[k]?=some x):partsA l=.sl false l.length l.length (l.flatMap Pt.cells):=by
 cases l with
 |nil=>cases h
 |cons y l=>rfl
theorem actsA_sl{l:List Ac}{k:Nat}{x:Ac}(h:l[k]?=some x):actsA l=.sl false l.length l.length (l.flatMap Ac.cells):=by
 cases l with
 |nil=>cases h
 |cons y l=>rfl
theorem flat_drop{α:Type}{f:α→List AV}{m:Nat}(hf:∀ x,(f x).length=m):∀ (l:List α) (k:Nat) (x:α),l[k]?=some x→((l.flatMap f).drop (k * m)).take m=f x∧k * m+m≤(l.flatMap f).length
 |[],k,x,h=>by cases h
 |y::l,0,x,h=>by
  cases h;rw[Nat.zero_mul,List.drop_zero,BE];exact⟨List.take_left' (hf y),by rw[Bp,hf];omega⟩
 |y::l,k+1,x,h=>by
  have ih:=flat_drop hf l k x (by simpa using h);rw[BE];have e:(k+1) * m=(f y).length+k * m:=by rw[hf,Nat.add_mul,Nat.one_mul,Nat.add_comm]
  rw[e,List.drop_append];refine⟨?_,by rw[Bp];omega⟩;rw[show (f y).length+k * m-(f y).length=k * m by omega,List.drop_eq_nil_of_le (by omega),Bi];exact ih.1
theorem treeL_s(l:List (List UInt8)):treeL [strsA l,strsA l]=true:=by cases l<;>rfl
def chdS(γ:List (Nat×AV))(c:Ch)(k:Nat):St:=⟨⟨93,[(2,.ptr 0 0 0),(3,.ptr 1 0 0),(5,.v (.int .i64 (k:Int)))],γ⟩,[⟨0,59,c.cells⟩,⟨0,59,c.cells⟩]⟩
def che(γ:List (Nat×AV))(c:Ch)(k:Nat):St:=⟨⟨93,[(2,.ptr 0 0 0),(3,.ptr 1 0 0),(6,.v (.int .i64 (k:Int)))],γ⟩,[⟨0,59,c.cells⟩,⟨0,59,c.cells⟩]⟩
theorem chords_ev(c:Ch)(ok:okCh c):Ev Tp γ 34 [c.av,c.av] (.v (.bool true)):=by
 obtain⟨ok1,ok2,ok3,ok4,ok5⟩:=ok;have lp:=fun s=>lenParts s c.parts
 have la:=fun s=>lenActs s c.body
 have hx:=exprs_ev (γ:=γ) c.guard ok3.1 ok3.2;have fo:oneA (nodesA c.guard)=true:=by cases c.guard<;>rfl
 have fp:oneA (partsA c.parts)=true:=by cases c.parts<;>rfl
 have fa:oneA (actsA c.body)=true:=by cases c.body<;>rfl
 have z1:(c.name != c.name)=false:=by simp
 have d1:(((c.parts.length:Nat):Int) != ((c.parts.length:Nat):Int))=false:=by simp
 have d2:(((c.body.length:Nat):Int) != ((c.body.length:Nat):Int))=false:=by simp
 refine Ev.ofE Tryz.func34 rfl ?_;simp only[Tryz.f34,tyD,tyW,Ch.av,Ch.cells,strC,fo,fp,fa,lp,la,d1,d2,evE,tyX,Bv,Nat.reduceAdd,Nat.reduceSub,Nat.reduceLT,Nat.reduceLeDiff,Nat.reduceEqDiff,reduceCtorEq];refine CallE.pure (CallK.intro c74 (treeL_x _) hx ?_);simp only[evE,Bv,Nat.reduceLT,Nat.reduceEqDiff,reduceCtorEq];refine LoopE.intro (chdS γ c) (fun k=>k≤c.parts.length) (fun k=>c.parts.length-k) 0 ⟨rfl,rfl,⟨rfl,rfl,rfl,trivial⟩,rfl⟩ (BN _) (fun k hk=>?_)
 by_cases hlt:k<c.parts.length
 ·have e1:decide (k<c.parts.length)=true:=decide_eq_true hlt;obtain⟨x,hxk⟩:∃ x,c.parts[k]?=some x:=⟨c.parts[k],by simp[hlt]⟩;have eS:=partsA_sl hxk;obtain⟨t2,l2⟩:=flat_drop (f:=Pt.cells) (m:=2) (fun _=>rfl) c.parts k x hxk
  have c0:(c.parts.flatMap Pt.cells)[k * 2]?=some (strC x.tag):=by
   have:=congrArg (fun l=>l[0]?) t2;simpa[BY,BX,Pt.cells]using this
  have c1:(c.parts.flatMap Pt.cells)[k * 2+1]?=some (strsA x.vars):=by
   have:=congrArg (fun l=>l[1]?) t2;simpa[BY,BX,Pt.cells]using this
  have ht:=texts_ev (γ:=γ) x.vars (ok2 x (List.mem_of_getElem? hxk));have zt:(x.tag != x.tag)=false:=by simp
  have ov:oneA (strsA x.vars)=true:=by cases x.vars<;>rfl
  have w1:IntKind.i64.wrap ((k:Int)+1)=((k+1:Nat):Int):=(i64w (by omega) (by omega)).trans (by omega);simp only[chdS,tyD,Ch.cells,strC,lp,e1,evE,Nat.reduceLT,Nat.reduceEqDiff,reduceCtorEq];refine dI ?_;simp only[strC]at c0;simp only[tyD,tyW,eS,c0,c1,evE,tyX,Bv,Nat.reduceLT,Nat.reduceEqDiff,reduceCtorEq];refine⟨hlt,hlt,hlt,hlt,CallK.intro c75 (treeL_s _) ht ?_⟩;simp only[w1,evE,Bv,Nat.reduceLT,Nat.reduceEqDiff,reduceCtorEq];exact loopCE.intro (k+1) hlt ⟨rfl,rfl,⟨rfl,rfl,rfl,trivial⟩,by simp only[chdS,Ch.cells,strC,eS]⟩ (by show c.parts.length-(k+1)<c.parts.length-k;clear w1;omega)
 ·have e1:decide (k<c.parts.length)=false:=decide_eq_false hlt;simp only[chdS,tyD,Ch.cells,strC,lp,e1,evE,Nat.reduceLT,Nat.reduceEqDiff,reduceCtorEq];refine LoopE.intro (che γ c) (fun k=>k≤c.body.length) (fun k=>c.body.length-k) 0 ⟨rfl,rfl,⟨rfl,rfl,rfl,trivial⟩,rfl⟩ (BN _) (fun k hk=>?_)
  by_cases hlt:k<c.body.length
  ·have e1:decide (k<c.body.length)=true:=decide_eq_true hlt;obtain⟨x,hxk⟩:∃ x,c.body[k]?=some x:=⟨c.body[k],by simp[hlt]⟩;have eS:=actsA_sl hxk;obtain⟨t5,l5⟩:=flat_drop (f:=Ac.cells) (m:=5) (fun _=>rfl) c.body k x hxk;have h5l:5≤((c.body.flatMap Ac.cells).drop (k * 5)).length:=by rw[Bd];omega
   have hac:=acts_ev (γ:=γ) x (ok5 x (List.mem_of_getElem? hxk))
   have htr:treeL [x.av,x.av]=true:=by
    cases h1:x.to<;>cases h2:x.args<;>simp only[Ac.av,Ac.cells,h1,h2]<;>rfl
   have w1:IntKind.i64.wrap ((k:Int)+1)=((k+1:Nat):Int):=(i64w (by omega) (by omega)).trans (by omega);simp only[che,tyD,tyW,Ch.cells,strC,la,e1,evE,Nat.reduceLT,Nat.reduceEqDiff,reduceCtorEq];refine dI ?_;simp only[tyD,tyW,eS,t5,h5l,evE,Nat.reduceLT,Nat.reduceEqDiff,reduceCtorEq];refine⟨hlt,hlt,CallK.intro c76 htr hac ?_⟩;simp only[w1,evE,Bv,Nat.reduceLT,Nat.reduceEqDiff,reduceCtorEq];exact loopCE.intro (k+1) hlt ⟨rfl,rfl,⟨rfl,rfl,rfl,trivial⟩,by simp only[che,Ch.cells,strC,eS]⟩ (by show c.body.length-(k+1)<c.body.length-k;clear w1;omega)
  ·have e1:decide (k<c.body.length)=false:=decide_eq_false hlt;simp only[che,tyD,tyW,Ch.cells,strC,la,e1,evE,Nat.reduceLT,Nat.reduceEqDiff,reduceCtorEq]
theorem tyP8:elemT Tp 78=some 3∧elemT Tp 68=some 137∧elemT Tp 69=some 90∧elemT Tp 88=some 59∧fieldT Tp 137 0=some (0,9)∧fieldT Tp 90 0=some (0,9)∧placesT Tp 71=some [(0,1),(1,1)]:=
 (by and_intros<;>kernel_rfl)
theorem c83:bodyT Tp 83:=⟨_,Tryz.func83,by kernel_rfl,by kernel_rfl⟩
theorem c84:bodyT Tp 84:=⟨_,Tryz.func84,by kernel_rfl,by kernel_rfl⟩
theorem c39:bodyT Tp 39:=⟨_,Tryz.func39,by kernel_rfl,by kernel_rfl⟩
theorem lenSl(t e:TypeId)(he:elemT Tp t=some e)(s:List ABlk)(n:Nat)(cs:List AV):lenS Tp t s (slA n cs)=some (.v (.int .i64 n)):=by
 cases n with
 |zero=>simp only[slA,lenS,he];rfl
 |succ n=>simp only[slA,lenS,he];rfl
theorem slA_pos{n k:Nat}(h:k<n)(cs:List AV):slA n cs=.sl false n n cs:=by
 cases n with
 |zero=>omega
 |succ n=>rfl
theorem oneSl(n:Nat)(cs:List AV):oneA (slA n cs)=true:=by cases n<;>rfl
def tgS(γ:List (Nat×AV))(c:Tg)(k:Nat):St:=⟨⟨38,[(2,.ptr 0 0 0),(3,.ptr 1 0 0),(5,.v (.int .i64 (k:Int)))],γ⟩,[⟨0,137,c.cells⟩,⟨0,137,c.cells⟩]⟩
theorem tags_ev(c:Tg)(ok:c.types.length≤2000000):Ev Tp γ 83 [c.av,c.av] (.v (.bool true)):=by
 have ll:=fun s=>lenSl 78 3 tyP8.1 s c.types.length (c.types.map intC)
 have fo:=oneSl c.types.length (c.types.map intC);have z1:(c.name != c.name)=false:=by simp
 have d1:(((c.types.length:Nat):Int) != ((c.types.length:Nat):Int))=false:=by simp
 refine Ev.ofE Tryz.func83 rfl ?_;simp only[Tryz.f83,tyD,tyP8,Tg.av,Tg.cells,intsA,strC,fo,ll,d1,evE,tyX,Bv,Nat.reduceAdd,Nat.reduceSub,Nat.reduceLT,Nat.reduceEqDiff,reduceCtorEq];refine LoopE.intro (tgS γ c) (fun k=>k≤c.types.length) (fun k=>c.types.length-k) 0 ⟨rfl,rfl,⟨rfl,rfl,rfl,trivial⟩,rfl⟩ (BN _) (fun k hk=>?_)
 by_cases hlt:k<c.types.length
 ·have d2:decide (k<c.types.length)=true:=decide_eq_true hlt;have eS:=slA_pos hlt (c.types.map intC);obtain⟨x,hxk⟩:∃ x,c.types[k]?=some x:=⟨c.types[k],by simp[hlt]⟩;have hc:(c.types.map intC)[k]?=some (.v (.int .i64 x)):=by rw[Bm,hxk];rfl
  have zx:(x != x)=false:=by simp
  have w1:IntKind.i64.wrap ((k:Int)+1)=((k+1:Nat):Int):=(i64w (by omega) (by omega)).trans (by omega);simp only[tgS,tyD,Tg.cells,intsA,strC,ll,d2,evE,Nat.reduceLT,Nat.reduceEqDiff,reduceCtorEq];refine dI ?_;simp only[tyD,tyP8,eS,hc,zx,w1,evE,tyX,Nat.reduceLT,Nat.reduceEqDiff,reduceCtorEq];exact⟨hlt,hlt,loopCE.intro (k+1) hlt ⟨rfl,rfl,⟨rfl,rfl,rfl,trivial⟩,by simp only[tgS,Tg.cells,intsA,strC,eS]⟩ (by show c.types.length-(k+1)<c.types.length-k;clear w1;omega)⟩
 ·have d2:decide (k<c.types.length)=false:=decide_eq_false hlt;simp only[tgS,tyD,Tg.cells,intsA,strC,ll,d2,evE,Nat.reduceLT,Nat.reduceEqDiff,reduceCtorEq]
def okTg(t:Tg):Prop:=t.types.length≤2000000
def okKd(k:Kd):Prop:=k.chords.length≤2000000∧∀ c∈k.chords,okCh c
def okPg(g:Pg):Prop:=g.tags.length≤2000000∧(∀ t∈g.tags,okTg t)∧g.kinds.length≤2000000∧∀ k∈g.kinds,okKd k
def Kd.av(k:Kd):AV:=.agg k.cells
def kdS(γ:List (Nat×AV))(c:Kd)(k:Nat):St:=⟨⟨39,[(2,.ptr 0 0 0),(3,.ptr 1 0 0),(5,.v (.int .i64 (k:Int)))],γ⟩,[⟨0,90,c.cells⟩,⟨0,90,c.cells⟩]⟩
theorem treeCh(x:Ch):treeL [x.av,x.av]=true:=by
 cases h1:x.parts<;>cases h2:x.guard<;>cases h3:x.body<;>simp only[Ch.av,Ch.cells,h1,h2,h3]<;>rfl
theorem kinds_ev(c:Kd)(ok:okKd c):Ev Tp γ 84 [c.av,c.av] (.v (.bool true)):=by
 have ll:=fun s=>lenSl 88 59 tyP8.2.2.2.1 s c.chords.length (c.chords.flatMap Ch.cells)
 have fo:=oneSl c.chords.length (c.chords.flatMap Ch.cells);have z1:(c.name != c.name)=false:=by simp
 have d1:(((c.chords.length:Nat):Int) != ((c.chords.length:Nat):Int))=false:=by simp
 have hn:=ok.1;refine Ev.ofE Tryz.func84 rfl ?_;simp only[Tryz.f84,tyD,tyP8,Kd.av,Kd.cells,chordsA,strC,fo,ll,d1,evE,tyX,Bv,Nat.reduceAdd,Nat.reduceSub,Nat.reduceLT,Nat.reduceEqDiff,reduceCtorEq];refine LoopE.intro (kdS γ c) (fun k=>k≤c.chords.length) (fun k=>c.chords.length-k) 0 ⟨rfl,rfl,⟨rfl,rfl,rfl,trivial⟩,rfl⟩ (BN _) (fun k hk=>?_)
 by_cases hlt:k<c.chords.length
 ·have d2:decide (k<c.chords.length)=true:=decide_eq_true hlt;have eS:=slA_pos hlt (c.chords.flatMap Ch.cells);obtain⟨x,hxk⟩:∃ x,c.chords[k]?=some x:=⟨c.chords[k],by simp[hlt]⟩;obtain⟨t4,l4⟩:=flat_drop (f:=Ch.cells) (m:=4) (fun _=>rfl) c.chords k x hxk;have h4l:4≤((c.chords.flatMap Ch.cells).drop (k * 4)).length:=by rw[Bd];omega
  have hce:=chords_ev (γ:=γ) x (ok.2 x (List.mem_of_getElem? hxk));have w1:IntKind.i64.wrap ((k:Int)+1)=((k+1:Nat):Int):=(i64w (by omega) (by omega)).trans (by omega);simp only[kdS,tyD,Kd.cells,chordsA,strC,ll,d2,evE,Nat.reduceLT,Nat.reduceEqDiff,reduceCtorEq];refine dI ?_;simp only[tyD,tyP8,eS,t4,h4l,evE,Nat.reduceLT,Nat.reduceEqDiff,reduceCtorEq];refine⟨hlt,hlt,CallK.intro c34 (treeCh x) hce ?_⟩;simp only[w1,evE,Bv,Nat.reduceLT,Nat.reduceEqDiff,reduceCtorEq];exact loopCE.intro (k+1) hlt ⟨rfl,rfl,⟨rfl,rfl,rfl,trivial⟩,by simp only[kdS,Kd.cells,chordsA,strC,eS]⟩ (by show c.chords.length-(k+1)<c.chords.length-k;clear w1;omega)
 ·have d2:decide (k<c.chords.length)=false:=decide_eq_false hlt;simp only[kdS,tyD,Kd.cells,chordsA,strC,ll,d2,evE,Nat.reduceLT,Nat.reduceEqDiff,reduceCtorEq]
def slB(b:Bool)(n:Nat)(cs:List AV):AV:=match n with
 |0=>.v (.slice none 0 0)
 |_+1=>.sl b n n cs
theorem lenSlB(t e:TypeId)(he:elemT Tp t=some e)(b:Bool)(s:List ABlk)(n:Nat)(cs:List AV):lenS Tp t s (slB b n cs)=some (.v (.int .i64 n)):=by
 cases n with
 |zero=>simp only[slB,lenS,he];rfl
 |succ n=>simp only[slB,lenS,he];rfl
theorem slB_pos{n k:Nat}(h:k<n)(b:Bool)(cs:List AV):slB b n cs=.sl b n n cs:=by
 cases n with
 |zero=>omega
 |succ n=>rfl
theorem oneSlB(b:Bool)(n:Nat)(cs:List AV):oneA (slB b n cs)=true:=by cases n<;>rfl
theorem slB_false(n:Nat)(cs:List AV):slB false n cs=slA n cs:=by cases n<;>rfl
def Pg.cellsB(b:Bool)(c:Pg):List AV:=[slB b c.tags.length (c.tags.flatMap Tg.cells),slB b c.kinds.length (c.kinds.flatMap Kd.cells)]
def pgS(γ:List (Nat×AV))(b:Bool)(c:Pg)(k:Nat):St:=⟨⟨61,[(2,.ptr 0 0 0),(3,.ptr 1 0 0),(5,.v (.int .i64 (k:Int)))],γ⟩,[⟨0,71,c.cells⟩,⟨0,71,c.cellsB b⟩]⟩
def pge(γ:List (Nat×AV))(b:Bool)(c:Pg)(k:Nat):St:=⟨⟨61,[(2,.ptr 0 0 0),(3,.ptr 1 0 0),(6,.v (.int .i64 (k:Int)))],γ⟩,[⟨0,71,c.cells⟩,⟨0,71,c.cellsB b⟩]⟩
theorem treeTg(x:Tg):treeL [x.av,x.av]=true:=by
 cases h1:x.types<;>simp only[Tg.av,Tg.cells,h1]<;>rfl
theorem treeKd(x:Kd):treeL [x.av,x.av]=true:=by
 cases h1:x.chords<;>simp only[Kd.av,Kd.cells,h1]<;>rfl
theorem progsB_ev(b:Bool)(c:Pg)(ok:okPg c):Ev Tp γ 39 [c.av,.agg (c.cellsB b)] (.v (.bool true)):=by
 obtain⟨ok1,ok2,ok3,ok4⟩:=ok;have lt:=fun s=>lenSl 68 137 tyP8.2.1 s c.tags.length (c.tags.flatMap Tg.cells)
 have lk:=fun s=>lenSl 69 90 tyP8.2.2.1 s c.kinds.length (c.kinds.flatMap Kd.cells)
 have ltB:=fun s=>lenSlB 68 137 tyP8.2.1 b s c.tags.length (c.tags.flatMap Tg.cells)
 have lkB:=fun s=>lenSlB 69 90 tyP8.2.2.1 b s c.kinds.length (c.kinds.flatMap Kd.cells)
 have ftB:=oneSlB b c.tags.length (c.tags.flatMap Tg.cells);have fkB:=oneSlB b c.kinds.length (c.kinds.flatMap Kd.cells);have ft:=oneSl c.tags.length (c.tags.flatMap Tg.cells);have fk:=oneSl c.kinds.length (c.kinds.flatMap Kd.cells);have d1:(((c.tags.length:Nat):Int) != ((c.tags.length:Nat):Int))=false:=by simp
 have d2:(((c.kinds.length:Nat):Int) != ((c.kinds.length:Nat):Int))=false:=by simp
 refine Ev.ofE Tryz.func39 rfl ?_;simp only[Tryz.f39,tyD,Pg.av,Pg.cells,Pg.cellsB,tagsA,kindsA,ft,fk,lt,lk,ftB,fkB,ltB,lkB,d1,d2,evE,Nat.reduceAdd,Nat.reduceSub,Nat.reduceLT,Nat.reduceEqDiff,reduceCtorEq];refine LoopE.intro (pgS γ b c) (fun k=>k≤c.tags.length) (fun k=>c.tags.length-k) 0 ⟨rfl,rfl,⟨rfl,rfl,rfl,trivial⟩,rfl⟩ (BN _) (fun k hk=>?_)
 by_cases hlt:k<c.tags.length
 ·have e1:decide (k<c.tags.length)=true:=decide_eq_true hlt;have eS:=slA_pos hlt (c.tags.flatMap Tg.cells);have eB:=slB_pos hlt b (c.tags.flatMap Tg.cells);obtain⟨x,hxk⟩:∃ x,c.tags[k]?=some x:=⟨c.tags[k],by simp[hlt]⟩;obtain⟨t2,l2⟩:=flat_drop (f:=Tg.cells) (m:=2) (fun _=>rfl) c.tags k x hxk;have h2l:2≤((c.tags.flatMap Tg.cells).drop (k * 2)).length:=by rw[Bd];omega
  have hce:=tags_ev (γ:=γ) x (ok2 x (List.mem_of_getElem? hxk));have w1:IntKind.i64.wrap ((k:Int)+1)=((k+1:Nat):Int):=(i64w (by omega) (by omega)).trans (by omega);simp only[pgS,tyD,Pg.cells,Pg.cellsB,tagsA,kindsA,lt,e1,evE,Nat.reduceLT,Nat.reduceEqDiff,reduceCtorEq];refine dI ?_;simp only[tyD,tyP8,eS,eB,t2,h2l,evE,Nat.reduceLT,Nat.reduceEqDiff,reduceCtorEq];refine⟨hlt,hlt,CallK.intro c83 (treeTg x) hce ?_⟩;simp only[w1,evE,Bv,Nat.reduceLT,Nat.reduceEqDiff,reduceCtorEq];exact loopCE.intro (k+1) hlt ⟨rfl,rfl,⟨rfl,rfl,rfl,trivial⟩,by simp only[pgS,Pg.cells,Pg.cellsB,tagsA,kindsA,eS,eB]⟩ (by show c.tags.length-(k+1)<c.tags.length-k;clear w1;omega)
 ·have e1:decide (k<c.tags.length)=false:=decide_eq_false hlt;simp only[pgS,tyD,Pg.cells,Pg.cellsB,tagsA,kindsA,lt,e1,evE,Nat.reduceLT,Nat.reduceEqDiff,reduceCtorEq];refine LoopE.intro (pge γ b c) (fun k=>k≤c.kinds.length) (fun k=>c.kinds.length-k) 0 ⟨rfl,rfl,⟨rfl,rfl,rfl,trivial⟩,rfl⟩ (BN _) (fun k hk=>?_)
  by_cases hlt:k<c.kinds.length
  ·have e1:decide (k<c.kinds.length)=true:=decide_eq_true hlt;have eS:=slA_pos hlt (c.kinds.flatMap Kd.cells);have eB:=slB_pos hlt b (c.kinds.flatMap Kd.cells);obtain⟨x,hxk⟩:∃ x,c.kinds[k]?=some x:=⟨c.kinds[k],by simp[hlt]⟩;obtain⟨t2,l2⟩:=flat_drop (f:=Kd.cells) (m:=2) (fun _=>rfl) c.kinds k x hxk;have h2l:2≤((c.kinds.flatMap Kd.cells).drop (k * 2)).length:=by rw[Bd];omega
   have hce:=kinds_ev (γ:=γ) x (ok4 x (List.mem_of_getElem? hxk));have w1:IntKind.i64.wrap ((k:Int)+1)=((k+1:Nat):Int):=(i64w (by omega) (by omega)).trans (by omega);simp only[pge,tyD,Pg.cells,Pg.cellsB,tagsA,kindsA,lk,e1,evE,Nat.reduceLT,Nat.reduceEqDiff,reduceCtorEq];refine dI ?_;simp only[tyD,tyP8,eS,eB,t2,h2l,evE,Nat.reduceLT,Nat.reduceEqDiff,reduceCtorEq];refine⟨hlt,hlt,CallK.intro c84 (treeKd x) hce ?_⟩;simp only[w1,evE,Bv,Nat.reduceLT,Nat.reduceEqDiff,reduceCtorEq];exact loopCE.intro (k+1) hlt ⟨rfl,rfl,⟨rfl,rfl,rfl,trivial⟩,by simp only[pge,Pg.cells,Pg.cellsB,tagsA,kindsA,eS,eB]⟩ (by show c.kinds.length-(k+1)<c.kinds.length-k;clear w1;omega)
  ·have e1:decide (k<c.kinds.length)=false:=decide_eq_false hlt;simp only[pge,tyD,Pg.cells,Pg.cellsB,tagsA,kindsA,lk,e1,evE,Nat.reduceLT,Nat.reduceEqDiff,reduceCtorEq]
theorem progs_ev(c:Pg)(ok:okPg c):Ev Tp γ 39 [c.av,c.av] (.v (.bool true)):=by
 have:=progsB_ev (γ:=γ) false c ok;simp only[Pg.cellsB,slB_false]at this;exact this
end Go.Proofs.YtlobiioioicmhaaGreatDoor
namespace Go.Proofs.YtlobiioioicmhaaGreatDoor.O
open _root_.Bool renaming not_true→Bv,not_false→Bf
open _root_.List renaming getElem?_eq_some_iff→Bs,getElem?_append_left→Ba,getElem?_set_self→Be,getElem?_set_ne→Bn,length_set→Bl,length_append→Bp,append_assoc→Bo,cons_append→Bc,nil_append→Bi,getElem?_cons_zero→Bz,getElem?_cons_succ→Bu,set_cons_zero→Bx,set_cons_succ→Bw,getElem?_map→Bm,length_map→Bk,set_append_left→Bg,take_of_length_le→Bt,length_drop→Bd,length_cons→BC,length_nil→BD,flatMap_cons→BE,mem_cons→BI,getElem?_toArray→BU,getElem?_drop→BX,getElem?_take→BY
open _root_.Nat renaming zero_le→BN
open Go.Proofs.Tryz renaming prog→Tp
open Go Go.Ev
theorem tyO:aggT Tp 39=some false∧
  aggT Tp 57=some false∧
  appT Tp 150 150=some (78,1,24)∧
  appT Tp 151 151=some (128,1,24)∧
  appT Tp 152 152=some (39,1,24)∧
  appT Tp 37 37=some (5,1,1)∧
  appT Tp 39 39=some (115,9,96)∧
  elemT Tp 128=some 9∧
  elemT Tp 133=some 41∧
  elemT Tp 150=some 78∧
  elemT Tp 151=some 128∧
  elemT Tp 152=some 39∧
  elemT Tp 39=some 115∧
  elemT Tp 56=some 130∧
  elemT Tp 57=some 135∧
  elemT Tp 68=some 137∧
  elemT Tp 69=some 90∧
  elemT Tp 78=some 3∧
  elemT Tp 88=some 59∧
  fieldT Tp 115 0=some (0,3)∧
  fieldT Tp 135 1=some (1,41)∧
  fieldT Tp 41 0=some (0,39)∧
  fltT Tp 5=none∧
  fltT Tp 9=none∧
  intT Tp 5=some .u8∧
  intT Tp 9=none∧
  mkT Tp 150=some (78,1,[.v (.slice none 0 0)])∧
  mkT Tp 151=some (128,1,[.v (.slice none 0 0)])∧
  mkT Tp 152=some (39,1,[.v (.slice none 0 0)])∧
  mkT Tp 37=some (5,1,[.v (.int .u8 0)])∧
  mkT Tp 39=some (115,9,[.v (.int .i64 0),.v (.int .i64 0),.v (.int .i64 0),.v (.string ⟨#[]⟩),.v (.int .i64 0),.v (.int .i64 0),.v (.float .f64 0),.v (.complex .f64 0 0),.v (.string ⟨#[]⟩)])∧
  placesT Tp 115=some [(0,1),(1,1),(2,1),(3,1),(4,5)]∧
  placesT Tp 41=some [(0,1)]∧
  sizeT Tp 115=some 9∧
  sizeT Tp 39=some 1∧
  strT Tp 3=false∧
  strT Tp 37=false∧
  strT Tp 5=false∧
  strT Tp 9=true∧
  (Tryz.prog.underlying 3).isSome=true∧
  (Tryz.prog.underlying 37).isSome=true∧
  zcT Tp 115=some [.v (.int .i64 0),.v (.int .i64 0),.v (.int .i64 0),.v (.string ⟨#[]⟩),.v (.int .i64 0),.v (.int .i64 0),.v (.float .f64 0),.v (.complex .f64 0 0),.v (.string ⟨#[]⟩)]:=
 (by and_intros<;>kernel_rfl)
theorem owL_split{h:List ABlk}:∀ {ks1 ks2:List Ki} {ys xs:List AV} {F:List Nat},owL ys h (ks1++ks2) xs F→∃ ys1 ys2 xs1 xs2 F1 F2,ys=ys1++ys2∧xs=xs1++xs2∧F=F1++F2∧owL ys1 h ks1 xs1 F1∧owL ys2 h ks2 xs2 F2
 |[],ks2,ys,xs,F,a=>⟨[],ys,[],xs,[],F,rfl,rfl,rfl,by simp only[owL];exact⟨trivial,trivial,trivial⟩,a⟩
 |k::ks1,ks2,[],xs,F,a=>by simp only[owL]at a;cases a.1
 |k::ks1,ks2,y::ys,xs,F,a=>by
  simp only[owL]at a;obtain⟨k',ks',x,xs',F1,F2,e,rfl,rfl,e4,e5⟩:=a;cases e;obtain⟨ys1,ys2,xs1,xs2,G1,G2,rfl,rfl,rfl,o1,o2⟩:=owL_split e5;refine⟨y::ys1,ys2,x::xs1,xs2,F1++G1,G2,rfl,rfl,by rw[Bo],?_,o2⟩;simp only[owL];exact⟨k,ks1,x,xs1,F1,G1,rfl,rfl,rfl,e4,o1⟩
def Arr(t:TypeId){α:Type}(enc:α→List AV)(h:List ABlk)(j ver:Nat)(dn:List AV)(l:List α)(F:List Nat):Prop:=∃ xs,h[j]?=some ⟨ver,t,dn++xs⟩∧owL (l.flatMap enc) h (rows t l.length) xs F
theorem Arr.cons{t:TypeId}{α:Type}{enc:α→List AV}{h:List ABlk}{j ver:Nat}{dn:List AV}{x:α}{l:List α}{F:List Nat}(a:Arr t enc h j ver dn (x::l) F)(hl:(enc x).length=(kT t).length):
  ∃ xs1 xs2 F1 F2,F=F1++F2∧h[j]?=some ⟨ver,t,dn++(xs1++xs2)⟩∧xs1.length=(kT t).length∧owL (enc x) h (kT t) xs1 F1∧owL (l.flatMap enc) h (rows t l.length) xs2 F2:=by
 obtain⟨xs,hj,o⟩:=a;rw[BE,BC,rows_cons]at o;obtain⟨ys1,ys2,xs1,xs2,F1,F2,e,rfl,rfl,o1,o2⟩:=owL_split o;have h1:=owL_length o1;obtain⟨rfl,rfl⟩:=List.append_inj e (by omega);exact⟨xs1,xs2,F1,F2,rfl,hj,h1.1,o1,o2⟩
theorem Arr.length{t:TypeId}{α:Type}{enc:α→List AV}{h:List ABlk}{j ver:Nat}{dn:List AV}{l:List α}{F:List Nat}(a:Arr t enc h j ver dn l F):∃ cs,h[j]?=some ⟨ver,t,cs⟩∧cs.length=dn.length+l.length * (kT t).length:=by
 obtain⟨xs,hj,o⟩:=a;have:=(owL_length o).1;refine⟨_,hj,?_⟩;rw[Bp,this]
 congr 1
 unfold rows;rw[List.length_flatten,List.map_replicate,List.sum_replicate_nat]
theorem Arr.fr{t:TypeId}{α:Type}{enc:α→List AV}{h h':List ABlk}{j ver:Nat}{dn:List AV}{l:List α}{F:List Nat}{S:Nat→Prop}(a:Arr t enc h j ver dn l F)(f:Fr S h h')(hj:¬S j)(hF:∀ k∈F,¬S k):Arr t enc h' j ver dn l F:=by
 obtain⟨xs,h1,o⟩:=a;have hl:=owL_lt _ _ _ _ o;exact⟨xs,f.at h1 hj,owL_fr _ _ _ _ (fun k hk=>f.2 k (hl k hk) (hF k hk)) o⟩
theorem ow_list{t:TypeId}{α:Type}{enc:α→List AV}{h:List ABlk}{l:List α}{N:AV}{F:List Nat}(o:ow (slA l.length (l.flatMap enc)) h (.s t) N F):
  (N=.v (.slice none 0 0)∧l=[]∧F=[])∨∃ j ver F',N=.own j ver l.length∧0<l.length∧F=j::F'∧Arr t enc h j ver [] l F':=by
 cases l with
 |nil=>simp only[BD,slA,ow]at o;exact .inl ⟨o.2.1,rfl,o.2.2⟩
 |cons x l=>
  simp only[BC,slA,ow]at o;obtain⟨_,_,h3,t',j,ver,xs,F',e,rfl,hj,rfl,o⟩:=o;cases e;exact .inr ⟨j,ver,F',rfl,Nat.succ_pos _,rfl,xs,hj,o⟩
theorem ow_fr2{h h':List ABlk}{S:Nat→Prop}{y:AV}{k:Ki}{x:AV}{F:List Nat}(o:ow y h k x F)(f:Fr S h h')(hF:∀ k∈F,¬S k):ow y h' k x F:=ow_fr _ _ _ _ (fun j hj=>f.2 j (ow_lt _ _ _ _ o j hj) (hF j hj)) o
theorem owL_fr2{h h':List ABlk}{S:Nat→Prop}{ys:List AV}{ks:List Ki}{xs:List AV}{F:List Nat}(o:owL ys h ks xs F)(f:Fr S h h')(hF:∀ k∈F,¬S k):owL ys h' ks xs F:=owL_fr _ _ _ _ (fun j hj=>f.2 j (owL_lt _ _ _ _ o j hj) (hF j hj)) o
set_option maxRecDepth 20000
variable {γ:List (Nat×AV)}
theorem c87:bodyT Tp 87:=⟨_,Tryz.func87,by kernel_rfl,by kernel_rfl⟩
theorem nodesA_sl(ns:List Nd):nodesA ns=slA ns.length (ns.flatMap Nd.cells):=by cases ns<;>rfl
def ndS(γ:List (Nat×AV))(b:Nat)(y:Nat×List ABlk):St:=⟨⟨24,[(1,.ptr b 0 0),(2,.v (.int .i64 (y.1:Int)))],γ⟩,y.2⟩
def Wr(F:List Nat)(h:List ABlk)(o:Out)(h':List ABlk):Prop:=o=.ret (.tup [])∧Fr (·∈ F) h h'
theorem nodes_ev{h:List ABlk}{N:AV}{ns:List Nd}{F:List Nat}(o:ow (nodesA ns) h (.s 115) N F)(hb:ns.length≤2000000):EvM Tp γ 87 [.agg [N]] h (Wr F h):=by
 rw[nodesA_sl]at o;refine EvM.of Tryz.func87 rfl ?_
 rcases ow_list o with⟨rfl,rfl,rfl⟩|⟨j,ver,F',rfl,hn,rfl,A⟩
 ·simp only[Tryz.f87,evE,Nat.reduceAdd,Nat.reduceSub,Nat.reduceLT];refine LoopE.intro (ndS γ h.length) (fun y=>y=(0,h++[⟨0,41,[.v (.slice none 0 0)]⟩])) (fun y=>0) (0,h++[⟨0,41,[.v (.slice none 0 0)]⟩]) ⟨rfl,rfl,⟨rfl,rfl,trivial⟩,rfl⟩ rfl (fun y hy=>?_);subst hy;have d0:decide (((0:Nat):Int)<0)=false:=rfl;simp only[ndS,tyO,d0,at_len,at_len1,set_len,Bo,Bc,Bi,evE,tyX,Nat.reduceAdd,Nat.reduceMul,Nat.reduceLT,Nat.reduceLeDiff,Nat.reduceEqDiff,reduceCtorEq,List.reduceReplicate];exact⟨rfl,Fr.app _ _⟩
 ·obtain⟨cs,hj,hl0⟩:=A.length;have hl:cs.length=ns.length * 9:=by simpa[kT]using hl0
  generalize ns.length=n at *;have hjl:=(Bs.1 hj).1;simp only[Tryz.f87,evE,Nat.reduceAdd,Nat.reduceSub,Nat.reduceLT]
  refine LoopE.intro (ndS γ h.length) (fun y=>y.1≤n∧y.2[h.length]?=some ⟨0,41,[.own j ver n]⟩∧Fr (IsI j) h y.2∧∃ cs,y.2[j]?=some ⟨ver,115,cs⟩∧cs.length=n * 9) (fun y=>n-y.1) (0,h++[⟨0,41,[.own j ver n]⟩]) ⟨rfl,rfl,⟨rfl,rfl,trivial⟩,rfl⟩
   ⟨BN _,at_len _ _ _,Fr.app _ _,cs,(Ba hjl).trans hj,hl⟩ (fun y hy=>?_)
  clear hj hl hl0 A cs;obtain⟨k,h1⟩:=y;obtain⟨hk,kb,f1,cs,hj,hl⟩:=hy;simp only at hk kb f1 hj;have hbl:=(Bs.1 kb).1
  by_cases hlt:k<n
  ·have d1:decide (k<n)=true:=decide_eq_true hlt;have w1:IntKind.i64.wrap ((k:Int)+1)=((k+1:Nat):Int):=(i64w (by omega) (by omega)).trans (by omega);have hkl:k * 9+9≤cs.length:=by omega
   simp only[ndS,tyO,kb,hj,d1,hkl,w1,evE,tyX,Nat.reduceAdd,Nat.reduceLT,Nat.reduceLeDiff,Nat.reduceEqDiff,reduceCtorEq];refine⟨hlt,loopCE.intro (k+1,_) ⟨hlt,?_,?_,?_⟩ ⟨rfl,rfl,⟨rfl,rfl,trivial⟩,rfl⟩ (by show n-(k+1)<n-k;clear w1;omega)⟩
   ·exact (Bn (by omega)).trans kb
   ·exact f1.trans (Fr.set (S:=IsI j) _ rfl) fun k e=>.inl e
   ·exact⟨_,Be (Bs.1 hj).1,by simp only[Bl];exact hl⟩
  ·have d1:decide (k<n)=false:=decide_eq_false hlt;have hj1:=(Bs.1 hj).1;have q1:∀ l,(h1++l)[j]?=some ⟨ver,115,cs⟩:=fun l=>(Ba hj1).trans hj
   have s8:∀ l c,(h1++l).set j c=h1.set j c++l:=fun l c=>Bg _ _ hj1
   have g9:∀ l c,(h1.set j c++l)[h.length]?=some ⟨0,41,[.own j ver n]⟩:=fun l c=>(Ba (by rw[Bl];exact hbl)).trans ((Bn (by omega)).trans kb)
   have s9:∀ l c d,(h1.set j c++l).set h.length d=(h1.set j c).set h.length d++l:=fun l c d=>Bg _ _ (by rw[Bl];exact hbl)
   have q4:List.take (n * 9) cs=cs:=Bt (by omega);have q6:n * 9≤cs.length:=by omega
   simp only[ndS,tyO,kb,hj,d1,q1,s8,g9,s9,q4,q6,at_len,evE,tyX,Nat.reduceAdd,Nat.reduceMul,Nat.reduceLT,Nat.reduceLeDiff,Nat.reduceEqDiff,reduceCtorEq,List.reduceReplicate];refine⟨by omega,rfl,?_⟩;exact ((f1.trans (Fr.set (S:=IsI j) _ rfl) fun k e=>.inl e).trans (Fr.set (S:=IsI h.length) _ rfl) fun k e=>.inr (by have e:k=h.length:=e;omega)).trans (Fr.app (S:=NoB) _ _) (fun k e=>e.elim) |>.mono fun k e=>by have e:k=j:=e;rw[e];exact List.mem_cons_self ..
end Go.Proofs.YtlobiioioicmhaaGreatDoor.O
