/- A part of the proof. -/
import Derived.Test.YtlobiioioicmhaaGreatDoorBQ8
import Derived.Test.YtlobiioioicmhaaGreatDoorBU9
set_option linter.all false
set_option maxHeartbeats 8000000
namespace Go.Proofs.YtlobiioioicmhaaGreatDoor
open _root_.Bool renaming not_true→Bv,not_false→Bf
open _root_.List renaming getElem?_eq_some_iff→Bs,getElem?_append_left→Ba,getElem?_append_right→Br,getElem?_set_self→Be,getElem?_set_ne→Bn,length_set→Bl,length_append→Bp,append_assoc→Bo,cons_append→Bc,nil_append→Bi,getElem?_cons_zero→Bz,getElem?_cons_succ→Bu,getElem?_map→Bm,length_map→Bk,length_drop→Bd,length_take→Bh,mem_singleton→Bj,map_cons→BA,prefix_rfl→BB,length_cons→BC,length_nil→BD,flatMap_cons→BE,mem_cons→BI,length_replicate→BJ,drop_drop→BT,getElem?_toArray→BU,getElem?_take→BY
open _root_.Nat renaming le_refl→BL,zero_le→BN
open Go.Proofs.Tryz renaming prog→Tp
open Go Go.Ev
set_option maxRecDepth 20000
variable {γ:List (Nat×AV)}
variable {sB:Tk→Bool} {all ts:List Tk} {from_:Nat} {L:AV}
theorem at_len(h:List ABlk)(x:ABlk)(l:List ABlk):(h++x::l)[h.length]?=some x:=by simp
theorem at_len1(h:List ABlk)(x y:ABlk)(l:List ABlk):(h++x::y::l)[h.length+1]?=some y:=by simp
abbrev IsI(i:Nat):Nat→Prop:=fun k=>k=i
variable {γ:List (Nat×AV)} {ts:List Tk} {L:AV}
theorem pr_ok(hL:LAt L ts)(hb:ts.length<4611686018427387904):∀ f,PrOk γ ts L f:=by
 intro f
 induction f using Nat.strongRecOn with
 |ind f ih=>
  cases f with
  |zero=>
   refine⟨fun n h1 h6 h i p N ns hp hf=>?_,fun h i p N ns hp hf=>?_,fun h i p N ns hp hf=>?_,fun s h i p N ns hp hf=>?_⟩<;>simp only[Md.need]at hf<;>omega
  |succ f=>
   have H:∀ g≤f,PrOk γ ts L g:=fun g hg=>ih g (Nat.lt_succ_of_le hg)
   exact⟨fun n h1 h6=>bin_step hL hb H h1 h6,un_step hL hb (H f (BL _)),fs_step hL hb H,fun s=>nm_step hL hb H s⟩
def readP(ts:List Tk)(p:Nat):Res:=pr ts (16 * ts.length+16) (.bin 1) p
theorem c60:bodyT Tp 60:=⟨_,Tryz.func60,by kernel_rfl,by kernel_rfl⟩
theorem c113:bodyT Tp 113:=⟨_,Tryz.func113,by kernel_rfl,by kernel_rfl⟩
theorem read1_none{h:List ABlk}{j:Nat}:EvD Tp γ 113 [.ptr j 0 0] h none fun h'=>h'=h:=by
 refine EvD.of Tryz.func113 rfl rfl ?_;simp only[recV,Tryz.f113,endR_ret,evE,tyX,Nat.reduceAdd,Nat.reduceSub,Nat.reduceLT,Nat.reduceEqDiff,reduceCtorEq]
 (repeat' (first|(with_reducible refine aI ?_ ?_)|(first|(first|refine gF ?_ ?_|refine gT ?_ ?_|refine cI ?_ ?_|refine pI ?_ ?_)<;>intro h|(refine dI ?_;have h:=trivial))<;>simp only[h,evE,tyX,Bv,Bf,Nat.reduceAdd,Nat.reduceSub,Nat.reduceMul,Nat.reduceLT,Nat.reduceLeDiff,Nat.reduceEqDiff,reduceCtorEq,List.reduceReplicate,Int.reduceToNat,Int.reduceLE,Int.reduceLT]))
 all_goals trace_state
theorem read1_some{h:List ABlk}{j q:Nat}{x:AV}(hj:h[j]?=some ⟨0,3,[x]⟩):EvD Tp γ 113 [.ptr j 0 0] h (some (faultA q)) fun h'=>h'=(h++[(⟨0,185,[.v (.int .i64 q)]⟩:ABlk)]).set j ⟨0,3,[.v (.int .i64 q)]⟩:=by
 have hl:j<h.length:=(Bs.1 hj).1;have s1:∀ x,(h++[x])[h.length]?=some x:=fun x=>by simp
 have s2:∀ x y,(h++[x]).set h.length y=h++[y]:=fun x y=>by simp
 have s3:∀ l,(h++l)[j]?=some ⟨0,3,[x]⟩:=fun l=>(Ba hl).trans hj
 refine EvD.of Tryz.func113 rfl rfl ?_;simp only[recV,faultA,Tryz.f113,endR_normal,s1,s2,s3,evE,tyX,Bv,Nat.reduceAdd,Nat.reduceSub,Nat.reduceLT,Nat.reduceLeDiff,Nat.reduceEqDiff,reduceCtorEq]
def ReadP(L:AV)(i:Nat)(N:AV)(h:List ABlk)(ns:List Nd)(r:Res)(o:Out)(h':List ABlk):Prop:=
 Fr (RP i N) h h'∧match r with
 |.ok t q=>o=.ret (.v (.int .i64 (-1)))∧∃ N',RS h' i L q N' (ns++lay t ns.length)∧∀ k,nbk N' k→nbk N k∨h.length≤k
 |.bad q=>o=.ret (.v (.int .i64 (q:Int)))
theorem read_ev(hL:LAt L ts)(hb:ts.length<4611686018427387904){h:List ABlk}{i p:Nat}{N:AV}{ns:List Nd}(hp:p≤ts.length)(hr:RS h i L p N ns)(hB:(ns.length+(ts.length-p)+1) * 96≤140737488355328):
  EvM Tp γ 60 [.ptr i 0 0] h (ReadP L i N h ns (readP ts p)):=by
 have s1:∀ x,(h++[x])[h.length]?=some x:=fun x=>by simp
 have hc:=(pr_ok (γ:=γ) hL hb (16 * ts.length+16)).bin 1 (by decide) (by decide) (h++[⟨0,3,[.v (.int .i64 0)]⟩]) i p N ns hp (by simp only[Md.need];omega) (hr.app _) hB;have hfr:Fr (RP i N) h (h++[⟨0,3,[.v (.int .i64 0)]⟩]):=Fr.app _ _;have hkeep:∀ h1,Fr (RP i N) (h++[⟨0,3,[.v (.int .i64 0)]⟩]) h1→h1[h.length]?=some ⟨0,3,[.v (.int .i64 0)]⟩:=fun h1 f=>f.at (s1 _) fun hk=>hk.elim (fun e=>by have:=hr.lt;omega) fun e=>by have:=hr.nlt e;omega
 refine EvM.ofD2 Tryz.func60 rfl ?_;have e0:(#[]:Array Operand).isEmpty=true:=rfl;simp only[kopsD,deferT,e0,Tryz.f60,evE,tyX,Nat.reduceAdd,Nat.reduceSub,Nat.reduceLT,Nat.reduceEqDiff,reduceCtorEq];refine CallE.intro c114 _ hc (fun r h1 hh=>?_) (fun v h1 hh=>?_)
 ·have hk:=hkeep h1 hh.1;simp only[hk,endDP_ret,endD,evE,tyX,Nat.reduceLT,Nat.reduceLeDiff,Nat.reduceEqDiff,reduceCtorEq];refine⟨c113,_,read1_none,fun h' e=>?_⟩;subst e;have hlt:h.length<h1.length:=(Bs.1 hk).1;have s2:∀ b,(h1.set h.length b)[h.length]?=some b:=fun b=>Be hlt
  simp only[s2,evE];show ReadP L i N h ns (pr ts (16 * ts.length+16) (.bin 1) p) _ _;cases e:pr ts (16 * ts.length+16) (.bin 1) p with
  |bad q=>rw[e]at hh;exact hh.bad_ret.elim
  |ok t q=>
   rw[e]at hh;obtain⟨_,f1,N1,r1,n1⟩:=hh.ok_ret;have n1':∀ k,nbk N1 k→nbk N k∨h.length+1≤k:=fun k hk=>(n1 k hk).imp id fun e=>by simpa using e
   have hj:h.length≠i:=by have:=hr.lt;omega
   have hnj:¬nbk N1 h.length:=fun hk=>(n1' _ hk).elim (fun e=>by have:=hr.nlt e;omega) fun e=>by omega
   exact⟨(Fr.more hfr f1 fun k hk=>.inl hk).trans (S1:=fun k=>k=h.length) (Fr.set _ rfl) fun k e=>.inr (by omega),rfl,N1,r1.setO hj hnj,fun k hk=>(n1' k hk).imp id fun e=>by omega⟩
 ·have hk:=hkeep h1 hh.1;have hlt:h.length<h1.length:=(Bs.1 hk).1;cases e:pr ts (16 * ts.length+16) (.bin 1) p with
  |ok t q=>rw[e]at hh;exact hh.ok_pan.elim
  |bad q=>
   rw[e]at hh;have ev:v=faultA q:=by have:=hh.2;cases this;rfl
   subst ev;simp only[endD,evE,tyX,Nat.reduceEqDiff,reduceCtorEq];refine⟨c113,_,read1_some hk,fun h' e'=>?_⟩;subst e';have s2:∀ l b,((h1++l).set h.length b)[h.length]?=some b:=fun l b=>Be (by rw[Bp];omega)
   simp only[s2,evE];show ReadP L i N h ns (pr ts (16 * ts.length+16) (.bin 1) p) _ _;rw[e];exact⟨((Fr.more hfr hh.1 fun k hk=>.inl hk).trans (S1:=fun _=>False) (Fr.app _ _) fun k e=>e.elim).trans (S1:=fun k=>k=h.length) (Fr.set _ rfl) fun k e=>.inr (by omega),rfl⟩
theorem NsAt.own{h:List ABlk}{N:AV}{ns:List Nd}(a:NsAt h N ns)(hn:0<ns.length):∃ j ver,N=.own j ver ns.length∧h[j]?=some ⟨ver,115,ndCells ns⟩:=by
 rcases a with⟨_,rfl⟩|a
 ·exact absurd hn (by decide)
 ·exact a
def tkOf(x:TokD×Nat):Tk:=⟨x.1.kind,x.1.text,x.1.int,x.1.real,x.2,x.1.size⟩
theorem tkOf_cells(x:TokD×Nat):(tkOf x).cells=tokCells x:=rfl
theorem tks_cells(L:List (TokD×Nat)):tkCells (L.map tkOf)=listCells L:=by
 induction L with
 |nil=>rfl
 |cons x L ih=>
  unfold tkCells listCells at *;rw[BA,BE,ih,BA,List.flatten_cons,tkOf_cells]
def okToks(l:List UInt8):Option (List (TokD×Nat)):=match (eachItems l).find? badI with
 |none=>some ((eachItems l).map fun x=>x.1)
 |some _=>none
def namedB(s:List UInt8):Bool:=match okToks s with
 |some [x]=>x.1.kind==1&&((x.1.size:Int)==(s.length:Int))
 |_=>false
theorem itemsF_head:∀ (f:Nat) (l:List UInt8) (i:Nat) (x:(TokD×Nat)×Int),x∈itemsF f l i→x.2=0→∃ s,headD s=.ok x.1.1∧1≤s.length
 |0,l,i,x,h,_=>by cases h
 |f+1,l,i,x,h,h0=>by
  rw[itemsF]at h
  split at h
  ·cases h
  ·rename_i hT
   split at h
   ·rename_i e he;rw[Bj]at h;subst h;exact absurd h0 (headD_err he)
   ·rename_i t ht
    rcases BI.1 h with rfl|h
    ·exact⟨_,ht,by rw[Bd];omega⟩
    ·exact itemsF_head f l _ x h h0
theorem okToks_head{l:List UInt8}{L:List (TokD×Nat)}(h:okToks l=some L){x:TokD×Nat}(hx:x∈L):∃ s,headD s=.ok x.1∧1≤s.length:=by
 unfold okToks at h
 split at h
 ·rename_i hn;cases h;obtain⟨y,hy,rfl⟩:=List.mem_map.1 hx
  have h0:y.2=0:=by
   have:=(List.find?_eq_none.1 hn) y hy;simpa[badI]using this
  unfold eachItems at hy
  split at hy
  ·rw[Bj]at hy;subst hy;cases h0
  ·exact itemsF_head _ _ _ y hy h0
 ·cases h
theorem textF_256(l:List UInt8):∀ (k i:Nat) (d q:List UInt8) (n:Nat),textF k l i d=some (q,n)→q.length≤256
 |0,i,d,q,n,h=>by cases h
 |k+1,i,d,q,n,h=>by
  rw[textF]at h
  split at h
  ·cases h
  ·split at h
   ·rename_i hc;cases h;exact hc.2
   ·split at h
    ·split at h
     ·cases h
     ·exact textF_256 l k _ _ q n h
    ·split at h
     ·cases h
     ·exact textF_256 l k _ _ q n h
theorem c41:bodyT Tp 41:=⟨_,Tryz.func41,by kernel_rfl,by kernel_rfl⟩
theorem tyR3:fieldT Tp 54 5=some (5,3)∧elemT Tp 47=some 54∧sizeT Tp 54=some 6:=(by and_intros<;>kernel_rfl)
theorem fzL_all(P:Program)(H:List ABlk)(b:Bool):∀ ys:List AV,(∀ y∈ys,∃ v,y=AV.v v)→fzL P H b ys ys
 |[],_=>by simp only[fzL]
 |y::ys,h=>by
  obtain⟨v,rfl⟩:=h y (List.mem_cons_self ..);simp only[fzL];exact⟨_,_,rfl,by simp only[fz],fzL_all P H b ys fun z hz=>h z (List.mem_cons_of_mem _ hz)⟩
theorem lend1{P:Program}{H:List ABlk}{i n:Nat}{k:ABlk}{ys:List AV}(h:H[i]?=some k)(hp:ys<+:k.cells)(hv:∀ y∈ys,∃ v,y=AV.v v):fzL P H true [.sl true n n ys] [.own i k.ver n]:=by
 simp only[fzL,fz];exact⟨_,_,rfl,.inr ⟨trivial,i,k,ys,rfl,h,BL _,.inl trivial,hp,fzL_all P H true ys hv⟩,rfl⟩
theorem bytes_v(l:List UInt8):∀ y∈l.map byteC,∃ v,y=AV.v v:=fun y hy=>by obtain⟨c,_,rfl⟩:=List.mem_map.1 hy;exact⟨_,rfl⟩
theorem nds_v(l:List Nd):∀ y∈ndCells l,∃ v,y=AV.v v:=fun y hy=>by
 obtain⟨n,_,hn⟩:=List.mem_flatMap.1 hy;simp only[Nd.cells,BI,List.not_mem_nil,or_false]at hn
 rcases hn with rfl|rfl|rfl|rfl|rfl|rfl|rfl|rfl|rfl<;>exact⟨_,rfl⟩
theorem noBor_list(L:List (TokD×Nat)):noBor (listA L)=true:=by
 cases L with
 |nil=>rfl
 |cons x L=>
  show (!false&&noBorL (listCells (x::L)))=true
  generalize x::L=L;unfold listCells
  induction L with
  |nil=>rfl
  |cons y L ih=>
   rw[BA,List.flatten_cons];show noBorL (tokCells y++_)=true;simp only[tokCells,tvals,BA,List.map_nil,Bc,Bi,noBorL,noBor,Bool.true_and];simpa using ih
theorem rscan_okToks{l:List UInt8}{L:List (TokD×Nat)}(h:okToks l=some L):rscanA l=.tup [listA L,.v (.int .i64 0),.v (.int .i64 0)]:=by
 unfold okToks at h;unfold rscanA;cases e:(eachItems l).find? badI with
 |none=>rw[e]at h;cases h;rfl
 |some x=>rw[e]at h;cases h
theorem rscan_noToks{l:List UInt8}(h:okToks l=none):∃ (L:List (TokD×Nat)) (x:(TokD×Nat)×Int),(eachItems l).find? badI=some x∧x.2≠0∧rscanA l=.tup [listA L,.v (.int .i64 x.1.2),.v (.int .i64 x.2)]:=by
 unfold okToks at h;unfold rscanA;cases e:(eachItems l).find? badI with
 |none=>rw[e]at h;cases h
 |some x=>exact⟨_,x,rfl,by simpa[badI]using List.find?_some e,rfl⟩
def nodesA:List Nd→AV
 |[]=>.v (.slice none 0 0)
 |ns=>.sl false ns.length ns.length (ndCells ns)
theorem listA_len{L:List (TokD×Nat)}{q:Nat}{x:TokD×Nat}(h:L[q]?=some x):∃ y T,L=y::T:=by
 cases L with
 |nil=>cases h
 |cons y T=>exact⟨y,T,rfl⟩
theorem listA_sl{L:List (TokD×Nat)}{q:Nat}{x:TokD×Nat}(h:L[q]?=some x):listA L=.sl false L.length L.length (listCells L):=by obtain⟨y,T,rfl⟩:=listA_len h;rfl
theorem listC_at{L:List (TokD×Nat)}{q:Nat}{x:TokD×Nat}(h:L[q]?=some x):(listCells L)[q * 6+4]?=some (.v (.int .i64 (x.2:Int))):=by
 have h2:(L.map tkOf)[q]?=some (tkOf x):=by rw[Bm,h];rfl
 have:=(LAt.at (cs:=listCells L) (by rw[tks_cells];exact BB) h2).2.2.2.2.1;exact this
theorem fz_nodes{P:Program}{H:List ABlk}{j ver:Nat}{ns:List Nd}(hj:H[j]?=some ⟨ver,115,ndCells ns⟩)(hn:0<ns.length):fz P H false (nodesA ns) (.own j ver ns.length):=by
 cases ns with
 |nil=>exact absurd hn (by decide)
 |cons x r=>
  simp only[nodesA,fz];exact .inr ⟨trivial,j,_,_,rfl,hj,BL _,.inl trivial,BB,fzL_all P H false _ (nds_v _)⟩
theorem ty47:elemT Tp 47=some 54∧sizeT Tp 54=some 6∧fieldT Tp 54 4=some (4,3):=(by and_intros<;>kernel_rfl)
theorem ty41:aggT Tp 41=some true∧sizeT Tp 41=some 1:=⟨by kernel_rfl,by kernel_rfl⟩
theorem flat_list(L:List (TokD×Nat)):flat (listA L)=some [listA L]:=by cases L<;>rfl
theorem one_list(L:List (TokD×Nat)):oneA (listA L)=true:=by cases L<;>rfl
theorem small_toks{l:List UInt8}{L:List (TokD×Nat)}(h:okToks l=some L):L.length≤32769:=by
 unfold okToks at h
 split at h
 ·cases h;rw[Bk];exact items_len l
 ·cases h
def iv(d:Nat):AV:=.v (.int .i64 (d:Int))
def dcs(ds:List Nat)(i:Nat):List AV:=(ds.take i).map iv++List.replicate (ds.length-i) (iv 0)
theorem dcs_length(ds:List Nat){i:Nat}(h:i≤ds.length):(dcs ds i).length=ds.length:=by
 simp only[dcs,Bp,Bk,Bh,BJ];omega
theorem dcs_at{ds:List Nat}{i j d:Nat}(hi:i≤ds.length)(hj:j<i)(hd:ds[j]?=some d):(dcs ds i)[j]?=some (iv d):=by
 unfold dcs;rw[Ba (by simp only[Bk,Bh];omega),Bm,BY,if_pos hj,hd];rfl
theorem dcs_set{ds:List Nat}{i d:Nat}(hd:ds[i]?=some d):(dcs ds i).set i (iv d)=dcs ds (i+1):=by
 have hi:i<ds.length:=(Bs.1 hd).1
 apply List.ext_getElem?
 intro j;rw[List.getElem?_set]
 by_cases hj:i=j
 ·subst hj;rw[if_pos rfl,dcs_length ds (by omega),if_pos hi,dcs_at (by omega) (by omega) hd]
 ·rw[if_neg hj];unfold dcs
  by_cases hj2:j<i
  ·rw[Ba (by simp only[Bk,Bh];omega),Ba (by simp only[Bk,Bh];omega),Bm,Bm,BY,BY,if_pos hj2,if_pos (by omega)]
  ·rw[Br (by simp only[Bk,Bh];omega),Br (by simp only[Bk,Bh];omega)];simp only[Bk,Bh,List.getElem?_replicate]
   by_cases hj3:j<ds.length
   ·rw[if_pos (by omega),if_pos (by omega)]
   ·rw[if_neg (by omega),if_neg (by omega)]
theorem dcs_zero(ds:List Nat):List.replicate ds.length (iv 0)=dcs ds 0:=by simp[dcs]
theorem tyZ:aggT Tp 115=some true∧
  aggT Tp 2=some false∧
  aggT Tp 22=some false∧
  aggT Tp 3=some false∧
  aggT Tp 37=some false∧
  aggT Tp 39=some false∧
  aggT Tp 48=some false∧
  aggT Tp 53=some true∧
  aggT Tp 9=some false∧
  elemT Tp 37=some 5∧
  elemT Tp 39=some 115∧
  elemT Tp 48=some 53∧
  elemT Tp 78=some 3∧
  fieldT Tp 104 0=some (0,48)∧
  fieldT Tp 104 1=some (1,3)∧
  fieldT Tp 104 2=some (2,39)∧
  fieldT Tp 115 0=some (0,3)∧
  fieldT Tp 115 1=some (1,3)∧
  fieldT Tp 115 2=some (2,3)∧
  fieldT Tp 53 0=some (0,3)∧
  fieldT Tp 53 1=some (1,9)∧
  fieldT Tp 53 2=some (2,2)∧
  fieldT Tp 53 3=some (3,22)∧
  fieldT Tp 53 4=some (4,3)∧
  fieldT Tp 53 5=some (5,3)∧
  fltT Tp 37=none∧
  intT Tp 37=none∧
  intT Tp 5=some .u8∧
  mkT Tp 78=some (3,1,[.v (.int .i64 0)])∧
  placesT Tp 104=some [(0,1),(1,1),(2,1)]∧
  placesT Tp 41=some [(0,1)]∧
  sizeT Tp 104=some 3∧
  sizeT Tp 115=some 9∧
  sizeT Tp 2=some 1∧
  sizeT Tp 22=some 1∧
  sizeT Tp 3=some 1∧
  sizeT Tp 37=some 1∧
  sizeT Tp 39=some 1∧
  sizeT Tp 41=some 1∧
  sizeT Tp 48=some 1∧
  sizeT Tp 5=some 1∧
  sizeT Tp 53=some 6∧
  sizeT Tp 9=some 1∧
  strT Tp 37=false∧
  strT Tp 9=true∧
  (Tryz.prog.underlying 9).isSome=true∧
  zcT Tp 104=some [.v (.slice none 0 0),.v (.int .i64 0),.v (.slice none 0 0)]∧
  zcT Tp 115=some [.v (.int .i64 0),.v (.int .i64 0),.v (.int .i64 0),.v (.string ⟨#[]⟩),.v (.int .i64 0),.v (.int .i64 0),.v (.float .f64 0),.v (.complex .f64 0 0),.v (.string ⟨#[]⟩)]∧
  zcT Tp 41=some [.v (.slice none 0 0)]∧
  zcT Tp 48=some [.v (.slice none 0 0)]:=
 (by and_intros<;>kernel_rfl)
def limS(γ:List (Nat×AV))(t:Tr)(i:Nat):St:=
 ⟨⟨58,[(0,.sl true (lay t 0).length (lay t 0).length (ndCells (lay t 0))),(3,.own 0 0 (lay t 0).length),(12,.sl true (lay t 0).length (lay t 0).length (ndCells (lay t 0))),(13,.v (.int .i64 ((lay t 0).length:Int))),(14,.v (.int .i64 (i:Int)))],γ⟩,[⟨0,3,dcs (dps t) i⟩]⟩
def limI(t:Tr)(i:Nat):Prop:=i≤t.size∧∀ j,j<i→∀ d,(dps t)[j]?=some d→d≤12
theorem ndCells_take9{l:List Nd}{i:Nat}{nd:Nd}(h:l[i]?=some nd):((ndCells l).drop (i * 9)).take 9=nd.cells:=by
 induction l generalizing i with
 |nil=>cases h
 |cons x l ih=>
  unfold ndCells at ih⊢;rw[BE];cases i with
  |zero=>
   simp only[Bz,Option.some.injEq]at h;subst h
   rfl
  |succ i=>
   have e:(i+1) * 9=(Nd.cells x).length+i * 9:=by simp only[Nd.cells,BC,BD];omega
   rw[e,←BT,List.drop_left];exact ih (by simpa using h)
theorem okRefL_dcs(n:Nat)(ds:List Nat)(i:Nat):okRefL n (dcs ds i)=true:=by
 unfold dcs;rw[okRefL_append,Bool.and_eq_true]
 constructor
 ·generalize ds.take i=l
  induction l with
  |nil=>rfl
  |cons x l ih=>rw[BA,okRefL,ih];rfl
 ·generalize ds.length-i=k
  induction k with
  |zero=>rfl
  |succ k ih=>rw[List.replicate_succ,okRefL,ih];rfl
theorem limits_ev(t:Tr)(hw:t.wf)(hb:t.size<4611686018427387904):Ev Tp γ 61 [.sl true (lay t 0).length (lay t 0).length (ndCells (lay t 0))] (.v (.int .i64 (limK t.size t.deep))):=by
 have hlen:=lay_length t 0;have hdl:=dps_length t;refine Ev.of Tryz.func61 rfl ?_
 by_cases h64:64<t.size
 ·have d1:decide ((64:Int)<(((lay t 0).length:Nat):Int))=true:=decide_eq_true (by omega);have e1:limK t.size t.deep=52:=if_pos h64;rw[e1];simp only[Tryz.f61,d1,evE,tyX,Nat.reduceAdd,Nat.reduceSub,Nat.reduceLT,Nat.reduceEqDiff,reduceCtorEq]
 ·have d1:decide ((64:Int)<(((lay t 0).length:Nat):Int))=false:=decide_eq_false (by omega)
  have hrep:rowsA (.int .i64 0) (lay t 0).length=dcs (dps t) 0:=by
   rw[hlen,←hdl,←dcs_zero];unfold rowsA;generalize (dps t).length=k
   induction k with
   |zero=>rfl
   |succ k ih=>rw[List.replicate_succ,List.flatten_cons,ih];rfl
  have b3:bytesT Tp 3=some 8:=by kernel_rfl
  have z3:Ev.zeroT Tp 3=some (.int .i64 0):=by kernel_rfl
  have l3:(zeroCells (.int .i64 0)).length=1:=rfl;simp only[Tryz.f61,tyZ,d1,b3,z3,l3,hrep,evE,tyX,Nat.reduceAdd,Nat.reduceSub,Nat.reduceLT,Nat.reduceEqDiff,reduceCtorEq];refine⟨⟨Int.le_refl _,by omega,by omega⟩,?_⟩;refine LoopK.intro (limS γ t) (limI t) (fun i=>t.size-i) 0 ?_ ⟨BN _,fun j hj=>by omega⟩ (fun i hi=>?_)
  ·refine⟨rfl,rfl,⟨rfl,rfl,rfl,rfl,rfl,trivial⟩,.inl rfl⟩
  ·obtain⟨hi1,hi2⟩:=hi;have hcl:=dcs_length (dps t) (i:=i) (by omega)
   by_cases hlt:i<t.size
   ·have d2:decide (i<(lay t 0).length)=true:=decide_eq_true (by omega);obtain⟨nd,hnd⟩:∃ nd,(lay t 0)[i]?=some nd:=⟨(lay t 0)[i]'(by omega),by simp[hlen,hlt]⟩;obtain⟨d,hd,hN⟩:=nodes_at t hw 0 i nd hnd;have h9:=ndCells_take9 hnd;have h9l:9≤((ndCells (lay t 0)).drop (i * 9)).length:=by rw[Bd,ndCells_length];omega
    have w1:IntKind.i64.wrap ((i:Int)+1)=((i+1:Nat):Int):=(i64w (by omega) (by omega)).trans (by omega);have hset:=dcs_set hd;have hil:i+1≤(dps t).length:=by omega
    have hin:i<(lay t 0).length:=by omega
    have q1:∀ x,((dcs (dps t) i).set i x)[i]?=some x:=fun x=>Be (by omega)
    have q2:∀ a x y,a<i→(dps t)[a]?=some y→((dcs (dps t) i).set i x)[a]?=some (.v (.int .i64 (y:Int))):=fun a x y ha hy=>(Bn (by omega)).trans (dcs_at (by omega) ha hy)
    simp only[limS,tyZ,d2,h9,h9l,hcl,hil,Nd.cells,evE,tyX,Nat.reduceAdd,Nat.reduceLT,Nat.reduceLeDiff,Nat.reduceEqDiff,reduceCtorEq];refine⟨hin,hin,CallK.intro c115 rfl (children_ev _) ?_⟩;have trm:∀ a x,(dps t)[a]?=some x→a<i→x≤12:=fun a x h ha=>hi2 a ha x h
    have z2:((0:Int)==2)=false:=rfl;have z1:((0:Int)==1)=false:=rfl;have y2:((1:Int)==2)=false:=rfl;have y1:((1:Int)==1)=true:=rfl;have x2:((2:Int)==2)=true:=rfl
    rcases hN with⟨hk,hd1⟩|⟨hk,a,x,hA,ha,hx,hx1,hdx⟩|⟨hk,a,x,b,y,hA,hB,ha,hbb,hx,hy,hdx⟩
    ·subst hd1;have hset:(dcs (dps t) i).set i (.v (.int .i64 1))=dcs (dps t) (i+1):=dcs_set hd;have q9:(dcs (dps t) (i+1))[i]?=some (.v (.int .i64 1)):=dcs_at (by omega) (by omega) hd;have hcl2:=dcs_length (dps t) (i:=i+1) (by omega);have h12:¬12<1:=by decide
     simp only[tyZ,hk,z2,z1,hset,q9,w1,evE,tyX,Nat.reduceLT,Nat.reduceEqDiff,reduceCtorEq,Int.reduceLT];refine⟨hin,?_⟩;refine loopC.intro (i+1) ⟨hlt,fun j hj d' hd'=>?_⟩ ?_ (by omega)
     ·by_cases e:j=i
      ·subst e;rw[hd]at hd';cases hd';omega
      ·exact hi2 j (by omega) d' hd'
     ·exact⟨rfl,rfl,⟨rfl,rfl,rfl,rfl,rfl,trivial⟩,.inr ⟨rfl,rfl,by show okRefB 1 [⟨0,3,dcs (dps t) (i+1)⟩]=true;simp only[okRefB,okRefL_dcs,Bool.and_self]⟩⟩
    ·subst hdx;have hx12:=trm a x hx ha;have hA':nd.a=(a:Int):=by rw[hA,Nat.zero_add]
     have han:a<(lay t 0).length:=by omega
     have q3:=q2 a (.v (.int .i64 1)) x ha hx;have w3:IntKind.i64.wrap (1+(x:Int))=((x+1:Nat):Int):=(i64w (by omega) (by omega)).trans (by omega);have m1:(if ((x+1:Nat):Int)>1 then ((x+1:Nat):Int)else 1)=((x+1:Nat):Int):=if_pos (by clear w3;omega);have qa:=q1 (.v (.int .i64 1));have hcs:((dcs (dps t) i).set i (.v (.int .i64 1))).length=(dps t).length:=by rw[Bl];exact hcl
     have hal:a+1≤(dps t).length:=by clear w3;omega
     have hset:(dcs (dps t) i).set i (.v (.int .i64 (x+1:Nat)))=dcs (dps t) (i+1):=dcs_set hd;have q9:(dcs (dps t) (i+1))[i]?=some (.v (.int .i64 (x+1:Nat))):=dcs_at (by omega) (by omega) hd;have hcl2:=dcs_length (dps t) (i:=i+1) (by omega)
     by_cases h12:12<x+1
     ·have d3:decide ((12:Int)<((x+1:Nat):Int))=true:=decide_eq_true (by omega)
      have e51:limK t.size t.deep=51:=by
       have:=dps_le t _ (List.mem_of_getElem? hd);unfold limK;rw[if_neg h64,if_pos (by omega)]
      rw[e51];simp only[tyZ,hk,y2,y1,hA',qa,evE,tyX,Nat.reduceLT,Nat.reduceEqDiff,reduceCtorEq,Int.reduceLT];refine dI ?_;simp only[tyZ,hcl,hil,qa,q3,w3,m1,List.set_set,hset,q9,d3,evE,tyX,Nat.reduceLT,Nat.reduceEqDiff,reduceCtorEq];exact⟨hin,han,hin⟩
     ·have d3:decide ((12:Int)<((x+1:Nat):Int))=false:=decide_eq_false (by omega);simp only[tyZ,hk,y2,y1,hA',qa,w1,evE,tyX,Nat.reduceLT,Nat.reduceEqDiff,reduceCtorEq,Int.reduceLT];refine dI ?_;simp only[tyZ,hcl,hil,qa,q3,w3,m1,List.set_set,hset,q9,d3,w1,evE,tyX,Nat.reduceLT,Nat.reduceEqDiff,reduceCtorEq];refine⟨hin,han,hin,hin,?_⟩;refine loopC.intro (i+1) ⟨hlt,fun j hj d' hd'=>?_⟩ ?_ (by omega)
      ·by_cases e:j=i
       ·subst e;rw[hd]at hd';cases hd';omega
       ·exact hi2 j (by omega) d' hd'
      ·exact⟨rfl,rfl,⟨rfl,rfl,rfl,rfl,rfl,trivial⟩,.inr ⟨rfl,rfl,by show okRefB 1 [⟨0,3,dcs (dps t) (i+1)⟩]=true;simp only[okRefB,okRefL_dcs,Bool.and_self]⟩⟩
    ·subst hdx;have hx12:=trm a x hx ha;have hy12:=trm b y hy hbb;have hA':nd.a=(a:Int):=by rw[hA,Nat.zero_add]
     have hB':nd.b=(b:Int):=by rw[hB,Nat.zero_add]
     have hbn:b<(lay t 0).length:=by omega
     have q4:=q2 b (.v (.int .i64 1)) y hbb hy;have han:a<(lay t 0).length:=by omega
     have q3:=q2 a (.v (.int .i64 ((y+1:Nat):Int))) x ha hx;have w3:IntKind.i64.wrap (1+(x:Int))=((x+1:Nat):Int):=(i64w (by omega) (by omega)).trans (by omega);have w4:IntKind.i64.wrap (1+(y:Int))=((y+1:Nat):Int):=(i64w (by clear w3;omega) (by clear w3;omega)).trans (by clear w3;omega);have m1:(if y+1<x+1 then ((x+1:Nat):Int)else ((y+1:Nat):Int))=((max x y+1:Nat):Int):=by clear w3 w4;split<;>omega
     have qa:=q1 (.v (.int .i64 ((y+1:Nat):Int)));have hcs:((dcs (dps t) i).set i (.v (.int .i64 1))).length=(dps t).length:=by rw[Bl];exact hcl
     have hal:a+1≤(dps t).length:=by clear w3 w4;omega
     have hbl:b+1≤(dps t).length:=by clear w3 w4;omega
     have hset:(dcs (dps t) i).set i (.v (.int .i64 (max x y+1:Nat)))=dcs (dps t) (i+1):=dcs_set hd;have q9:(dcs (dps t) (i+1))[i]?=some (.v (.int .i64 (max x y+1:Nat))):=dcs_at (by omega) (by omega) hd;have hcl2:=dcs_length (dps t) (i:=i+1) (by omega)
     by_cases h12:12<max x y+1
     ·have d3:decide ((12:Int)<((max x y+1:Nat):Int))=true:=decide_eq_true (by omega)
      have e51:limK t.size t.deep=51:=by
       have:=dps_le t _ (List.mem_of_getElem? hd);unfold limK;rw[if_neg h64,if_pos (by omega)]
      rw[e51];simp only[tyZ,hk,x2,hA',hB',q4,w4,hcl,hil,List.set_set,evE,tyX,Nat.reduceLT,Nat.reduceEqDiff,reduceCtorEq];refine⟨hbn,hin,?_⟩;refine dI ?_;simp only[tyZ,hcl,hil,qa,q3,w3,m1,List.set_set,hset,q9,d3,evE,tyX,Nat.reduceLT,Nat.reduceEqDiff,reduceCtorEq];exact⟨hin,han,hin⟩
     ·have d3:decide ((12:Int)<((max x y+1:Nat):Int))=false:=decide_eq_false (by omega);simp only[tyZ,hk,x2,hA',hB',q4,w4,hcl,hil,List.set_set,w1,evE,tyX,Nat.reduceLT,Nat.reduceEqDiff,reduceCtorEq];refine⟨hbn,hin,?_⟩;refine dI ?_;simp only[tyZ,hcl,hil,qa,q3,w3,m1,List.set_set,hset,q9,d3,w1,evE,tyX,Nat.reduceLT,Nat.reduceEqDiff,reduceCtorEq];refine⟨hin,han,hin,hin,?_⟩;refine loopC.intro (i+1) ⟨hlt,fun j hj d' hd'=>?_⟩ ?_ (by omega)
      ·by_cases e:j=i
       ·subst e;rw[hd]at hd';cases hd';omega
       ·exact hi2 j (by omega) d' hd'
      ·exact⟨rfl,rfl,⟨rfl,rfl,rfl,rfl,rfl,trivial⟩,.inr ⟨rfl,rfl,by show okRefB 1 [⟨0,3,dcs (dps t) (i+1)⟩]=true;simp only[okRefB,okRefL_dcs,Bool.and_self]⟩⟩
   ·have d2:decide (i<(lay t 0).length)=false:=decide_eq_false (by omega)
    have e0:limK t.size t.deep=0:=by
     unfold limK;have:=hi2 (t.size-1) (by have:=size_pos t;omega) _ (dps_last t);rw[if_neg h64,if_neg (by omega)]
    rw[e0];simp only[limS,d2,evE,Nat.reduceLT,Nat.reduceEqDiff,reduceCtorEq]
theorem c58:bodyT Tp 58:=⟨_,Tryz.func58,by kernel_rfl,by kernel_rfl⟩
theorem c61:bodyT Tp 61:=⟨_,Tryz.func61,by kernel_rfl,by kernel_rfl⟩
theorem lenS48(s:List ABlk)(L:List (TokD×Nat)):lenS Tp 48 s (listA L)=some (.v (.int .i64 L.length)):=by
 have e24:elemT Tp 48=some 53:=by kernel_rfl
 cases L with
 |nil=>simp only[listA,lenS,e24];rfl
 |cons y T=>simp only[listA,lenS,e24];rfl
theorem scan_okToks{l:List UInt8}{L:List (TokD×Nat)}(h:okToks l=some L):scanA l=.tup [listA L,.v (.int .i64 0),.v (.int .i64 0)]:=by
 unfold okToks at h;unfold scanA scanAL;cases e:(eachItems l).find? badI with
 |none=>rw[e]at h;cases h;rfl
 |some x=>rw[e]at h;cases h
theorem scan_noToks{l:List UInt8}(h:okToks l=none):∃ x,(eachItems l).find? badI=some x∧x.2≠0∧scanA l=.tup [.v (.slice none 0 0),.v (.int .i64 x.1.2),.v (.int .i64 x.2)]:=by
 unfold okToks at h;unfold scanA scanAL;cases e:(eachItems l).find? badI with
 |none=>rw[e]at h;cases h
 |some x=>exact⟨x,rfl,by simpa[badI]using List.find?_some e,rfl⟩
def finR(r:Nat):Bool:=match Ieee.double.read r with
 |.number false _ _=>true
 |_=>false
theorem read_cases(r:Nat):(∃ s f,Ieee.double.read r=.nan s f)∨(∃ s,Ieee.double.read r=.infinity s)∨∃ s m i,Ieee.double.read r=.number s m i∧m<9007199254740992 ∧ -1074≤i∧i≤971:=by
 have e1:Ieee.double.leastPlace = -1074:=by rfl
 have e2:Ieee.double.binade=4503599627370496:=by rfl
 have e3:Ieee.double.infRung=9218868437227405312:=by rfl
 have e4:Ieee.double.signWeight=9223372036854775808:=by rfl
 unfold Ieee.Format.read;simp only[e1,e2,e3,e4];generalize r%9223372036854775808=u
 split
 ·exact .inr (.inr ⟨_,_,_,rfl,by omega,by omega,by omega⟩)
 ·split
  ·refine .inr (.inr ⟨_,_,_,rfl,by omega,by omega,?_⟩);have:u / 4503599627370496≤2046:=by omega
   omega
  ·split
   ·exact .inr (.inl ⟨_,rfl⟩)
   ·exact .inl ⟨_,_,rfl⟩
theorem read_neg(r:Nat):(Ieee.double.read r).neg=(r / 9223372036854775808%2==1):=by
 have e4:Ieee.double.signWeight=9223372036854775808:=by rfl
 unfold Ieee.Format.read;simp only[e4]
 split
 ·rfl
 ·split
  ·rfl
  ·split<;>rfl
theorem ord_num{r m:Nat}{s:Bool}{i:Int}(h:Ieee.double.read r=.number s m i)(hi : -1074≤i):Ieee.double.order r 0=some (if m=0 then .eq else if s then .lt else .gt):=by
 unfold Ieee.Format.order;rw[h,rd0];simp only[Ieee.Datum.order,Ieee.signed,Bool.false_eq_true,if_false,Nat.shiftLeft_eq,Nat.zero_mul];have hp:=one_le_pow (i-min i (-1074)).toNat
 by_cases hm:m=0
 ·subst hm;rw[if_pos rfl,Nat.zero_mul];cases s<;>rfl
 ·have hA:0<m * 2^(i-min i (-1074)).toNat:=Nat.mul_pos (by omega) hp;generalize m * 2^(i-min i (-1074)).toNat=A at *;rw[if_neg hm];cases s with
  |false=>
   have:compare ((A:Nat):Int) ((0:Nat):Int)=.gt:=by rw[Int.compare_eq_gt];omega
   simp only[Bool.false_eq_true,if_false,this]
  |true=>
   have:compare (-((A:Nat):Int)) ((0:Nat):Int)=.lt:=by rw[Int.compare_eq_lt];omega
   simp only[if_true,this]
theorem ord_max_num{r m:Nat}{s:Bool}{i:Int}(h:Ieee.double.read r=.number s m i)(hm:m<9007199254740992)(hi:i≤971):(Ieee.double.order r 9218868437227405311==some .gt)=false:=by
 unfold Ieee.Format.order;rw[h,rdMax];simp only[Ieee.Datum.order,Ieee.signed,Bool.false_eq_true,if_false,Nat.shiftLeft_eq];have e1:(i-min i 971).toNat=0:=by omega
 rw[e1];have hp:=one_le_pow (971-min i 971).toNat;have:9007199254740991≤9007199254740991 * 2^(971-min i 971).toNat:=Nat.le_mul_of_pos_right _ hp;generalize 9007199254740991 * 2^(971-min i 971).toNat=A at *
 have key:∀ x:Int,x≤m→(some (compare x ((A:Nat):Int))==some Ordering.gt)=false:=fun x hx=>by
  have:compare x ((A:Nat):Int)≠.gt:=by rw[Ne,Int.compare_eq_gt];omega
  cases hc:compare x ((A:Nat):Int)with
  |gt=>exact absurd hc this
  |lt=>rfl
  |eq=>rfl
 cases s with
 |false=>exact key _ (by simp)
 |true=>exact key _ (by simp only[if_true];omega)
theorem ord_nan{r x f:Nat}{s:Bool}(h:Ieee.double.read r=.nan s f):Ieee.double.order r x=none:=by
 unfold Ieee.Format.order;rw[h];rfl
theorem ord_inf{r:Nat}{s:Bool}(h:Ieee.double.read r=.infinity s):Ieee.double.order r 0=some (if s then .lt else .gt)∧Ieee.double.order r 9218868437227405311=some (if s then .lt else .gt)∧Ieee.double.sub r r=none:=by
 unfold Ieee.Format.order Ieee.Format.sub;rw[h,rd0,rdMax];cases s<;>exact⟨rfl,rfl,rfl⟩
def standB(t:Tk):Bool:=if t.kind=1 then namedB t.text else if t.kind=2 then decide (0≤t.int)else if t.kind=3 then finR t.real else if t.kind=4 then decide (t.text.length≤256)else t.kind==5
theorem o00:FloatKind.f64.format.order 0 0=some .eq:=by kernel_rfl
theorem q1:(some Ordering.gt==some Ordering.gt)=true:=rfl
theorem q2:(some Ordering.gt==some Ordering.eq)=false:=rfl
theorem q3:(some Ordering.eq==some Ordering.gt)=false:=rfl
theorem q4:(some Ordering.eq==some Ordering.eq)=true:=rfl
theorem q5:(some Ordering.lt==some Ordering.gt)=false:=rfl
theorem q6:(some Ordering.lt==some Ordering.eq)=false:=rfl
theorem q7:((none:Option Ordering)==some Ordering.gt)=false:=rfl
theorem q8:((none:Option Ordering)==some Ordering.eq)=false:=rfl
theorem c67:bodyT Tp 67:=⟨_,Tryz.func67,by kernel_rfl,by kernel_rfl⟩
theorem c66:bodyT Tp 66:=⟨_,Tryz.func66,by kernel_rfl,by kernel_rfl⟩
theorem c121:bodyT Tp 121:=⟨_,Tryz.func121,by kernel_rfl,by kernel_rfl⟩
theorem c119:bodyT Tp 119:=⟨_,Tryz.func119,by kernel_rfl,by kernel_rfl⟩
theorem c120:bodyT Tp 120:=⟨_,Tryz.func120,by kernel_rfl,by kernel_rfl⟩
theorem noBor_scan(l:List UInt8):noBor (scanA l)=true:=by
 cases e:okToks l with
 |none=>
  obtain⟨x,_,_,hr⟩:=scan_noToks e;rw[hr];rfl
 |some L=>rw[scan_okToks e];simp only[noBor,noBorL,noBor_list,Bool.and_self]
theorem named_ev(hγ:Gl γ)(hγ2:GlW γ)(s:List UInt8)(hs:s.length≤140737488351232):Ev Tp γ 121 [.v (.string ⟨s.toArray⟩)] (.v (.bool (namedB s))):=by
 refine Ev.of Tryz.func121 rfl ?_;simp only[Tryz.f121,tyZ,evE,Nat.reduceAdd,Nat.reduceSub,Nat.reduceLT,Nat.reduceEqDiff,reduceCtorEq];refine⟨by omega,CallK.lend c58 _ (lend1 (k:=⟨0,5,s.map byteC⟩) rfl BB (bytes_v s)) (lexScan_ev hγ hγ2 true s hs) ?_ ?_⟩
 ·exact noBor_scan s
 cases e:okToks s with
 |none=>
  obtain⟨x,_,hk,hr⟩:=scan_noToks e;have d1:(x.2==0)=false:=by simpa using hk
  have en:namedB s=false:=by unfold namedB;rw[e]
  rw[hr,en];simp only[d1,evE,Nat.reduceLT,Nat.reduceEqDiff,reduceCtorEq]
 |some L=>
  rw[scan_okToks e];have ll:=lenS48 [⟨0,5,s.map byteC⟩] L;have z0:((0:Int)==0)=true:=rfl;simp only[ll,z0,evE,Nat.reduceLT,Nat.reduceEqDiff,reduceCtorEq]
  match L,e with
  |[],e=>
   have en:namedB s=false:=by unfold namedB;rw[e]
   rw[en];have n0:(((0:Nat):Int)==1)=false:=rfl;simp only[n0,evE,Nat.reduceLT,Nat.reduceEqDiff,reduceCtorEq]
  |[x],e=>
   have en:namedB s=(x.1.kind==1&&((x.1.size:Int)==(s.length:Int))):=by unfold namedB;rw[e]
   rw[en];have n1:(((1:Nat):Int)==1)=true:=rfl;simp only[n1,listA,listCells,tokCells,tvals,evE,tyX,Nat.reduceAdd,Nat.reduceLT,Nat.reduceLeDiff,Nat.reduceEqDiff,reduceCtorEq,Int.reduceLE]
   by_cases hk:x.1.kind=1
   ·have d1:(x.1.kind==1)=true:=by simpa using hk
    simp only[tyZ,d1,evE,tyX,Nat.reduceLT,Nat.reduceLeDiff,Nat.reduceEqDiff,reduceCtorEq,Int.reduceLE]
    decide
   ·have d1:(x.1.kind==1)=false:=by simpa using hk
    simp only[d1,evE,Nat.reduceLT,Nat.reduceEqDiff,reduceCtorEq];exact⟨by decide,rfl⟩
  |x::y::L,e=>
   have en:namedB s=false:=by unfold namedB;rw[e]
   rw[en];have n2:(((L.length+1+1:Nat):Int)==1)=false:=by simp only[beq_eq_false_iff_ne,ne_eq];omega
   simp only[n2,evE,Nat.reduceLT,Nat.reduceEqDiff,reduceCtorEq]
theorem isInf1_ev(r:Nat):Ev Tp γ 119 [.v (.float .f64 r),.v (.int .i64 1)] (.v (.bool (FloatKind.f64.format.order r 9218868437227405311==some .gt))):=by
 refine Ev.of Tryz.func119 rfl ?_;have h00:((1:Int)==0)=false:=by decide
 have h01:decide ((1:Int)<0)=false:=by decide
 simp only[Tryz.f119,h00,evE,Nat.reduceAdd,Nat.reduceSub,Nat.reduceLT,Nat.reduceEqDiff,reduceCtorEq,Int.reduceLT]
theorem sign_bit(r:Nat)(h:r<18446744073709551616):decide (IntKind.i64.wrap (r:Int)<0)=(Ieee.double.read r).neg:=by
 rw[read_neg]
 by_cases hr:r<9223372036854775808
 ·have e1:r / 9223372036854775808=0:=Nat.div_eq_of_lt hr;rw[i64w (by omega) (by omega),e1];exact decide_eq_false (by omega)
 ·have e1:r / 9223372036854775808=1:=by omega
  have e2:IntKind.i64.wrap (r:Int)=(r:Int)-18446744073709551616:=by
   have b1:IntKind.i64.bits=64:=rfl;have b2:IntKind.i64.signed=true:=rfl;have m1:(r:Int)%18446744073709551616=r:=by omega
   unfold IntKind.wrap;rw[b1,b2];show (if (true&&decide ((r:Int)%18446744073709551616≥9223372036854775808))=true then (r:Int)%18446744073709551616-18446744073709551616 else (r:Int)%18446744073709551616)=_;rw[m1,if_pos (by simp;omega)]
  rw[e1,e2];exact decide_eq_true (by omega)
theorem ty2:intT Tp 2=some .i64∧(Tryz.prog.underlying 176).isSome=true:=⟨by kernel_rfl,by kernel_rfl⟩
theorem signbit_ev(r:Nat)(h:r<18446744073709551616):Ev Tp γ 120 [.v (.float .f64 r)] (.v (.bool (Ieee.double.read r).neg)):=by
 have hb:=sign_bit r h;refine Ev.of Tryz.func120 rfl ?_;simp only[Tryz.f120,evE,Nat.reduceAdd,Nat.reduceSub,Nat.reduceLT,Nat.reduceEqDiff,reduceCtorEq];refine CallK.ext (ext33 r) ?_;simp only[ty2,hb,evE,Nat.reduceLT,Nat.reduceEqDiff,reduceCtorEq]
theorem knownB_ev(hγ:Gl γ)(hγ2:GlW γ)(t:Tk)(hs:t.text.length≤140737488351232)(hr:t.real<18446744073709551616):Ev Tp γ 67 [.agg t.cells] (.v (.bool (standB t))):=by
 refine Ev.of Tryz.func67 rfl ?_;obtain⟨kd,tx,ti,tr,tp,tz⟩:=t;simp only at hs hr;unfold standB;simp only
 by_cases h1:kd=1
 ·subst h1;simp only[Tryz.f67,Tk.cells,Int.reduceBEq,evE,tyX,Nat.reduceAdd,Nat.reduceSub,Nat.reduceLT,Nat.reduceEqDiff,reduceCtorEq];refine CallK.intro c121 rfl (named_ev hγ hγ2 tx hs) ?_;simp only[if_true,evE,Nat.reduceLT,Nat.reduceEqDiff,reduceCtorEq]
 ·have d1:(kd==1)=false:=by simpa using h1
  rw[if_neg h1]
  by_cases h2:kd=2
  ·subst h2;simp only[Tryz.f67,Tk.cells,Int.reduceBEq,if_true,evE,tyX,Nat.reduceAdd,Nat.reduceSub,Nat.reduceLT,Nat.reduceEqDiff,reduceCtorEq]
  ·have d2:(kd==2)=false:=by simpa using h2
   rw[if_neg h2]
   by_cases h3:kd=3
   ·subst h3;rw[if_pos rfl];unfold finR
    rcases read_cases tr with⟨s,f,h⟩|⟨s,h⟩|⟨s,m,i,h,hm,hi,hj⟩
    ·have o1:FloatKind.f64.format.order tr 0=none:=ord_nan h;rw[h];simp only[Tryz.f67,Tk.cells,Int.reduceBEq,q7,q8,o1,evE,tyX,Nat.reduceAdd,Nat.reduceSub,Nat.reduceLT,Nat.reduceEqDiff,reduceCtorEq]
    ·have o1:FloatKind.f64.format.order tr 0=some (if s then .lt else .gt):=(ord_inf h).1;have o2:FloatKind.f64.format.order tr 9218868437227405311=some (if s then .lt else .gt):=(ord_inf h).2.1;rw[h];cases s with
     |true=>
      simp only[if_true]at o1;simp only[Tryz.f67,Tk.cells,Int.reduceBEq,q5,q6,o1,evE,tyX,Nat.reduceAdd,Nat.reduceSub,Nat.reduceLT,Nat.reduceEqDiff,reduceCtorEq]
     |false=>
      simp only[Bool.false_eq_true,if_false]at o1 o2;simp only[Tryz.f67,Tk.cells,Int.reduceBEq,q1,q2,o1,evE,tyX,Nat.reduceAdd,Nat.reduceSub,Nat.reduceLT,Nat.reduceEqDiff,reduceCtorEq];refine CallK.intro c119 rfl (isInf1_ev tr) ?_;simp only[o2,q1,evE,Bv,Nat.reduceLT,Nat.reduceEqDiff,reduceCtorEq]
    ·have o1:FloatKind.f64.format.order tr 0=some (if m=0 then .eq else if s then .lt else .gt):=ord_num h hi;have o2:(FloatKind.f64.format.order tr 9218868437227405311==some .gt)=false:=ord_max_num h hm hj;have hn:=signbit_ev (γ:=γ) tr hr;rw[h]at hn⊢;have hn:Ev Tp γ 120 [.v (.float .f64 tr)] (.v (.bool s)):=hn
     by_cases h0:m=0
     ·simp only[if_pos h0]at o1;simp only[Tryz.f67,Tk.cells,Int.reduceBEq,q3,q4,o1,evE,tyX,Nat.reduceAdd,Nat.reduceSub,Nat.reduceLT,Nat.reduceEqDiff,reduceCtorEq];refine CallK.intro c119 rfl (isInf1_ev tr) ?_;simp only[o2,evE,tyX,Bf,Nat.reduceLT,Nat.reduceEqDiff,reduceCtorEq];refine CallK.intro c120 rfl hn ?_;simp only[evE,Nat.reduceLT,Nat.reduceEqDiff,reduceCtorEq];cases s<;>rfl
     ·simp only[if_neg h0]at o1;cases s with
      |true=>
       simp only[if_true]at o1;simp only[Tryz.f67,Tk.cells,Int.reduceBEq,q5,q6,o1,evE,tyX,Nat.reduceAdd,Nat.reduceSub,Nat.reduceLT,Nat.reduceEqDiff,reduceCtorEq]
      |false=>
       simp only[Bool.false_eq_true,if_false]at o1;simp only[Tryz.f67,Tk.cells,Int.reduceBEq,q1,q2,o1,evE,tyX,Nat.reduceAdd,Nat.reduceSub,Nat.reduceLT,Nat.reduceEqDiff,reduceCtorEq];refine CallK.intro c119 rfl (isInf1_ev tr) ?_;simp only[o2,evE,tyX,Bf,Nat.reduceLT,Nat.reduceEqDiff,reduceCtorEq];refine CallK.intro c120 rfl hn ?_;simp only[evE,Bf,Nat.reduceLT,Nat.reduceEqDiff,reduceCtorEq]
   ·have d3:(kd==3)=false:=by simpa using h3
    rw[if_neg h3]
    by_cases h4:kd=4
    ·subst h4;simp only[Tryz.f67,tyZ,Tk.cells,Int.reduceBEq,if_true,evE,tyX,Nat.reduceAdd,Nat.reduceSub,Nat.reduceLT,Nat.reduceEqDiff,reduceCtorEq];rw[show (decide ((tx.length:Int)≤256))=decide (tx.length≤256)by simp only[decide_eq_decide];omega]
    ·have d4:(kd==4)=false:=by simpa using h4
     rw[if_neg h4];simp only[Tryz.f67,Tk.cells,d1,d2,d3,d4,evE,tyX,Nat.reduceAdd,Nat.reduceSub,Nat.reduceLT,Nat.reduceEqDiff,reduceCtorEq]
theorem read1_ev(hγ:Gl γ)(hγ2:GlW γ)(t:Tk)(hs:t.text.length≤140737488351232)(hr:t.real<18446744073709551616):Ev Tp γ 66 [.agg t.cells] (.v (.bool (!standB t))):=by
 refine Ev.of Tryz.func66 rfl ?_;simp only[Tryz.f66,Tk.cells,evE,tyX,Nat.reduceAdd,Nat.reduceSub,Nat.reduceLT,Nat.reduceLeDiff,Nat.reduceEqDiff,reduceCtorEq];refine CallK.intro c67 rfl (knownB_ev hγ hγ2 t hs hr) ?_;simp only[evE,Nat.reduceLT,Nat.reduceEqDiff,reduceCtorEq]
def stN(ts:List Tk):Nat:=(ts.takeWhile standB).length
theorem stN_le(ts:List Tk):stN ts≤ts.length:=(List.takeWhile_prefix standB).length_le
theorem stN_yes:∀ (ts:List Tk) (k:Nat) (t:Tk),k<stN ts→ts[k]?=some t→standB t=true
 |[],k,t,h,ht=>by cases ht
 |x::ts,k,t,h,ht=>by
  unfold stN at h;rw[List.takeWhile_cons]at h
  split at h
  ·rename_i hx;cases k with
   |zero=>cases ht;exact hx
   |succ k=>exact stN_yes ts k t (by unfold stN;rw[BC]at h;omega) (by simpa using ht)
  ·simp at h
theorem stN_no:∀ (ts:List Tk) (t:Tk),ts[stN ts]?=some t→standB t=false
 |[],t,ht=>by cases ht
 |x::ts,t,ht=>by
  unfold stN at ht;rw[List.takeWhile_cons]at ht
  split at ht
  ·exact stN_no ts t (by unfold stN;simpa using ht)
  ·rename_i hx;cases ht;simpa using hx
theorem stN_lt{ts:List Tk}{k:Nat}{t:Tk}(hk:k≤stN ts)(ht:ts[k]?=some t)(hs:standB t=true):k+1≤stN ts:=by
 by_cases h:k=stN ts
 ·rw[h]at ht;rw[stN_no ts t ht]at hs;cases hs
 ·omega
theorem stN_eq{ts:List Tk}{k:Nat}{t:Tk}(hk:k≤stN ts)(ht:ts[k]?=some t)(hs:standB t=false):k=stN ts:=by
 by_cases h:k=stN ts
 ·exact h
 ·rw[stN_yes ts k t (by omega) ht]at hs;cases hs
def idxR(ts:List Tk):Int:=if stN ts<ts.length then (stN ts:Int)else -1
theorem c65:bodyT Tp 65:=⟨_,Tryz.func65,by kernel_rfl,by kernel_rfl⟩
def okTk(t:Tk):Prop:=t.text.length≤140737488351232∧t.real<18446744073709551616
def ixS(γ:List (Nat×AV))(L:AV)(n k:Nat):St:=⟨⟨19,[(0,L),(1,.v (.func (.func 66) #[] #[])),(7,.v (.int .i64 (n:Int))),(8,.v (.int .i64 (k:Int)))],γ⟩,[]⟩
theorem index_ev(hγ:Gl γ)(hγ2:GlW γ){L:AV}{ts:List Tk}(hL:LAt L ts)(ht:∀ t∈ts,okTk t)(hn:ts.length<4611686018427387904):Ev Tp γ 65 [L,.v (.func (.func 66) #[] #[])] (.v (.int .i64 (idxR ts))):=by
 refine Ev.ofE Tryz.func65 rfl ?_
 rcases hL with⟨rfl,rfl⟩|⟨b,m,cs,rfl,hcs⟩
 ·simp only[Tryz.f65,evE,tyX,Nat.reduceAdd,Nat.reduceSub,Nat.reduceLT,Nat.reduceEqDiff,reduceCtorEq];refine LoopE.intro (ixS γ (.v (.slice none 0 0)) 0) (fun k=>k=0) (fun k=>0) 0 ⟨rfl,rfl,⟨rfl,rfl,rfl,rfl,trivial⟩,rfl⟩ rfl (fun k hk=>?_);subst hk;have d0:decide (((0:Nat):Int)<((0:Nat):Int))=false:=by decide
  simp only[ixS,evE,Nat.reduceLT,Nat.reduceEqDiff,reduceCtorEq]
  rfl
 ·simp only[Tryz.f65,evE,tyX,Nat.reduceAdd,Nat.reduceSub,Nat.reduceLT,Nat.reduceEqDiff,reduceCtorEq];refine LoopE.intro (ixS γ (.sl b ts.length m cs) ts.length) (fun k=>k≤stN ts) (fun k=>ts.length-k) 0 ⟨rfl,rfl,⟨rfl,rfl,rfl,rfl,trivial⟩,rfl⟩ (BN _) (fun k hk=>?_);have hle:=stN_le ts
  by_cases hlt:k<ts.length
  ·have d2:decide (k<ts.length)=true:=decide_eq_true hlt;obtain⟨t,htk⟩:∃ t,ts[k]?=some t:=⟨ts[k],by simp[hlt]⟩;have h6:=LAt.take hcs htk;have h6l:6≤(cs.drop (k * 6)).length:=by have:=LAt.len hcs hlt;rw[Bd];omega
   have hok:=ht t (List.mem_of_getElem? htk);have w1:IntKind.i64.wrap ((k:Int)+1)=((k+1:Nat):Int):=(i64w (by omega) (by omega)).trans (by omega);simp only[ixS,d2,h6,h6l,evE,tyX,Nat.reduceLT,Nat.reduceEqDiff,reduceCtorEq];refine⟨hlt,CallM.intro c66 _ (EvM.ofEv (.inl ⟨rfl,rfl⟩) (read1_ev hγ hγ2 t hok.1 hok.2)) (fun r h' hh=>?_) (fun v h' hh=>by cases hh.1)⟩;obtain⟨e,rfl⟩:=hh;cases e;cases hs:standB t with
   |true=>
    simp only[w1,evE,Bv,Nat.reduceLT,Nat.reduceEqDiff,reduceCtorEq];exact loopCE.intro (k+1) (stN_lt hk htk hs) ⟨rfl,rfl,⟨rfl,rfl,rfl,rfl,trivial⟩,rfl⟩ (by show ts.length-(k+1)<ts.length-k;clear w1;omega)
   |false=>
    have ek:=stN_eq hk htk hs;have hi:idxR ts=(k:Int):=by unfold idxR;rw[←ek,if_pos hlt]
    rw[hi];simp only[evE,Bf,Nat.reduceLT,Nat.reduceEqDiff,reduceCtorEq]
  ·have d2:decide (k<ts.length)=false:=decide_eq_false hlt;have hi:idxR ts = -1:=by unfold idxR;rw[if_neg (by omega)]
   rw[hi];simp only[ixS,d2,evE,Nat.reduceLT,Nat.reduceEqDiff,reduceCtorEq]
def cutN(ts:List Tk)(p:Nat):Nat:=p+stN (ts.drop p)
def readR(ts:List Tk)(f:Int):List Nd×Int×Int:=
 if f<0∨(ts.length:Int)<f then ([],0,2)else match readP (ts.take (cutN ts f.toNat)) f.toNat with
  |.bad q=>([],q,50)
  |.ok t q=>if limK t.size t.deep=0 then (lay t 0,q,0)else ([],f,limK t.size t.deep)
def readA(ts:List Tk)(f:Int):AV:=.tup [.agg [nodesA (readR ts f).1],.v (.int .i64 (readR ts f).2.1),.v (.int .i64 (readR ts f).2.2)]
theorem cutN_le{ts:List Tk}{p:Nat}(hp:p≤ts.length):cutN ts p≤ts.length:=by
 have:=stN_le (ts.drop p);rw[Bd]at this;unfold cutN;omega
theorem tkCells_append(a b:List Tk):tkCells (a++b)=tkCells a++tkCells b:=List.flatMap_append
theorem LAt_take{ts:List Tk}{cs:List AV}(h:tkCells ts<+:cs)(k:Nat):tkCells (ts.take k)<+:cs:=by
 refine List.IsPrefix.trans ?_ h;have:ts=ts.take k++ts.drop k:=(List.take_append_drop k ts).symm
 conv=>rhs;rw[this,tkCells_append]
 exact List.prefix_append _ _
theorem LAt_drop{ts:List Tk}{cs:List AV}(h:tkCells ts<+:cs){k:Nat}(hk:k≤ts.length):tkCells (ts.drop k)<+:cs.drop (k * 6):=by
 obtain⟨r,rfl⟩:=h;have e:ts=ts.take k++ts.drop k:=(List.take_append_drop k ts).symm;have hl:(tkCells (ts.take k)).length=k * 6:=by rw[tkCells_length,Bh,Nat.min_eq_left hk]
 conv=>rhs;rw[e,tkCells_append,Bo,←hl,List.drop_left]
 exact List.prefix_append _ _
def LAs(L:AV)(ts:List Tk):Prop:=(L=.v (.slice none 0 0)∧ts=[])∨∃ b m cs,L=.sl b ts.length m cs∧tkCells ts<+:cs∧cs.length≤m * 6∧ts.length≤m
theorem c26:bodyT Tp 26:=⟨_,Tryz.func26,by kernel_rfl,by kernel_rfl⟩
theorem read26_ev(hγ:Gl γ)(hγ2:GlW γ){L:AV}{ts:List Tk}(hL:LAs L ts)(ht:∀ t∈ts,okTk t)(hn:ts.length≤2000000)(f:Int):Ev Tp γ 26 [L,.v (.int .i64 f)] (readA ts f):=by
 refine Ev.ofE Tryz.func26 rfl ?_
 have ll:∀ s,lenS Tp 48 s L=some (.v (.int .i64 ts.length)):=fun s=>by
  have e24:elemT Tp 48=some 53:=by kernel_rfl
  rcases hL with⟨rfl,rfl⟩|⟨b,m,cs,rfl,_⟩
  ·simp only[lenS,e24];rfl
  ·simp only[lenS,e24];rfl
 have fl:flat L=some [L]:=by rcases hL with⟨rfl,rfl⟩|⟨b,m,cs,rfl,_⟩<;>rfl
 have fo:oneA L=true:=by rcases hL with⟨rfl,rfl⟩|⟨b,m,cs,rfl,_⟩<;>rfl
 unfold readA
 by_cases h1:f<0
 ·have d1:decide (f<0)=true:=decide_eq_true h1;have hR:readR ts f=([],0,2):=by unfold readR;rw[if_pos (.inl h1)]
  rw[hR];simp only[Tryz.f26,tyZ,ty41,d1,nodesA,evE,Nat.reduceAdd,Nat.reduceSub,Nat.reduceLT,Nat.reduceLeDiff,Nat.reduceEqDiff,reduceCtorEq]
 ·have d1:decide (f<0)=false:=decide_eq_false h1
  by_cases h2:(ts.length:Int)<f
  ·have d2:decide ((ts.length:Int)<f)=true:=decide_eq_true h2;have hR:readR ts f=([],0,2):=by unfold readR;rw[if_pos (.inr h2)]
   rw[hR];simp only[Tryz.f26,tyZ,ty41,ll,d1,d2,nodesA,evE,Nat.reduceAdd,Nat.reduceSub,Nat.reduceLT,Nat.reduceLeDiff,Nat.reduceEqDiff,reduceCtorEq]
  ·have d2:decide ((ts.length:Int)<f)=false:=decide_eq_false h2;obtain⟨p,rfl⟩:∃ p:Nat,f=p:=⟨f.toNat,by omega⟩;have hp:p≤ts.length:=by omega
   have hR:readR ts p=match readP (ts.take (cutN ts p)) p with
     |.bad q=>([],(q:Int),50)
     |.ok t q=>if limK t.size t.deep=0 then (lay t 0,(q:Int),0)else ([],(p:Int),limK t.size t.deep):=by
    unfold readR;rw[if_neg (by omega),Int.toNat_natCast]
   have d2:decide (ts.length<p)=false:=decide_eq_false (by omega);clear h1 h2
   rcases hL with⟨rfl,rfl⟩|⟨b,m,cs,rfl,hcs,hc1,hc2⟩
   ·have hp0:p=0:=Nat.le_zero.1 hp;subst hp0;have dm:decide ((0:Int) ≤ -1)=false:=by decide
    simp only[Tryz.f26,tyZ,ll,d1,fl,fo,evE,tyX,Nat.reduceAdd,Nat.reduceSub,Nat.reduceLT,Nat.reduceLeDiff,Nat.reduceEqDiff,reduceCtorEq];refine CallE.pure (CallK.intro c65 rfl (index_ev hγ hγ2 (.inl ⟨rfl,rfl⟩) (fun t h=>by cases h) (by decide)) ?_);have e0:idxR [] = -1:=rfl;simp only[e0,evE,Nat.reduceLT,Nat.reduceEqDiff,reduceCtorEq,Int.reduceLE];have hcut2:(([]:List Tk).take (cutN [] 0)).length=0:=by simp
    refine CallE.intro c60 _ (read_ev (ts:=([]:List Tk).take (cutN [] 0)) (.inl ⟨rfl,List.take_nil⟩) (by rw[hcut2];decide) (h:=[⟨0,41,[.v (.slice none 0 0)]⟩,⟨0,104,[.v (.slice none 0 0),.v (.int .i64 (((0:Nat)):Int)),.v (.slice none 0 0)]⟩]) (i:=1) (p:=0) (N:=.v (.slice none 0 0)) (ns:=[]) (BN _) ⟨rfl,.inl ⟨rfl,rfl⟩⟩ (by simp)) (fun r h1 hh=>?_) (fun v h' hh=>?_)
    rotate_left
    ·obtain⟨_,hh⟩:=hh;cases er:readP (([]:List Tk).take (cutN [] 0)) 0 with
     |bad q=>rw[er]at hh;cases hh
     |ok t q=>rw[er]at hh;cases hh.1
    obtain⟨f1,hh⟩:=hh;have k0:h1[0]?=some ⟨0,41,[.v (.slice none 0 0)]⟩:=f1.at rfl fun h=>h.elim (fun e=>by cases e) fun e=>e
    have kz:∀ b,(h1.set 0 b)[0]?=some b:=fun b=>Be (Bs.1 k0).1
    cases er:readP (([]:List Tk).take (cutN [] 0)) 0 with
    |bad q=>
     rw[er]at hh hR;have hh:Out.ret r=Out.ret (.v (.int .i64 (q:Int))):=hh;cases hh;have d4:decide ((0:Int)≤(q:Int))=true:=decide_eq_true (by omega);rw[hR];simp only[tyZ,k0,kz,ty41,nodesA,evE,Nat.reduceLT,Nat.reduceLeDiff,Nat.reduceEqDiff,reduceCtorEq]
    |ok t q=>
     rw[er]at hh hR;obtain⟨eo,N',r1,n1⟩:=hh;cases eo;have hr1:h1[1]?=_:=r1.1;have d4:decide ((0:Int) ≤ -1)=false:=by decide
     have hadv:=pr_adv _ _ _ _ _ _ (BN _) er;obtain⟨⟨g1,g2⟩,g3⟩:=hadv;have hwf:=pr_wf _ _ _ _ _ _ (fun n a e=>by cases e) er;have hsz:t.size≤2000001:=(by rw[hcut2]at *;omega);have hN:=r1.2;rw[Bi,BD]at hN;have hlen:=lay_length t 0;have hps:=size_pos t;obtain⟨j,ver,rfl,hj⟩:=hN.own (by omega);simp only[hr1,evE,tyX,Nat.reduceLT,Nat.reduceEqDiff,reduceCtorEq,Int.reduceLE];refine CallE.pure (CallK.lend c61 _ (lend1 hj BB (nds_v _)) (limits_ev t hwf (by omega)) rfl ?_)
     by_cases hk:limK t.size t.deep=0
     ·have d5:(limK t.size t.deep != 0)=false:=by simpa using hk
      have hj0:j≠0:=fun e=>by subst e;rw[k0]at hj;cases hj
      have kx:∀ b,(h1.set 0 b)[1]?=some _:=fun b=>(Bn (by decide)).trans hr1
      rw[hR];simp only[if_pos hk];simp only[d5,evE,Nat.reduceLT,Nat.reduceEqDiff,reduceCtorEq];refine DrawK.orders [[0,1,2,3,4,5,6,7,8,9,10,11],[0,1,2,3,4,9,5,6,7,8,10,11],[0,1,2,3,4,5,9,6,7,8,10,11],[0,1,2,3,4,5,6,9,7,8,10,11],[0,1,2,3,4,5,6,7,9,8,10,11]] (by kernel_rfl) (by kernel_rfl) (by kernel_rfl) (fun p hp=>?_);simp only[BI,List.not_mem_nil,or_false]at hp
      rcases hp with rfl|rfl|rfl|rfl|rfl
      all_goals simp only[seqT,BU,Bu,Bz,tyZ,hr1,kx,k0,kz,ty41,evE,tyX,Nat.reduceLT,Nat.reduceLeDiff,Nat.reduceEqDiff,reduceCtorEq]
      all_goals exact fz_nodes ((Bn (Ne.symm hj0)).trans hj) (by omega)
     ·have d5:(limK t.size t.deep != 0)=true:=by simpa using hk
      rw[hR];simp only[if_neg hk];simp only[tyZ,d5,k0,kz,ty41,nodesA,evE,Nat.reduceLT,Nat.reduceLeDiff,Nat.reduceEqDiff,reduceCtorEq]
   ·have e1:=Bd (i:=p) (l:=ts);simp only[Tryz.f26,tyZ,ll,d1,d2,fl,fo,evE,tyX,Nat.reduceAdd,Nat.reduceSub,Nat.reduceLT,Nat.reduceLeDiff,Nat.reduceEqDiff,reduceCtorEq];refine⟨⟨hc1,hc2,hp⟩,CallE.pure (CallK.intro c65 rfl (index_ev hγ hγ2 (ts:=ts.drop p) (.inr ⟨b,_,_,by rw[e1],LAt_drop hcs hp⟩) (fun t h=>ht t (List.mem_of_mem_drop h)) (by omega)) ?_)⟩
    by_cases hb:stN (ts.drop p)<(ts.drop p).length
    ·have e0:idxR (ts.drop p)=(stN (ts.drop p):Int):=by unfold idxR;rw[if_pos hb]
     have d3:decide ((0:Int)≤(stN (ts.drop p):Int))=true:=decide_eq_true (by omega);have w1:IntKind.i64.wrap ((p:Int)+(stN (ts.drop p):Int))=((cutN ts p:Nat):Int):=(i64w (by omega) (by omega)).trans (by unfold cutN;omega);have hcut:=cutN_le hp;have hcut2:(ts.take (cutN ts p)).length=cutN ts p:=by rw[Bh];omega
     simp only[e0,w1,evE,tyX,Nat.reduceAdd,Nat.reduceLT,Nat.reduceLeDiff,Nat.reduceEqDiff,reduceCtorEq];refine⟨⟨hc1,by omega⟩,?_⟩;refine CallE.intro c60 _ (read_ev (ts:=ts.take (cutN ts p)) (.inr ⟨b,m,cs,by rw[hcut2],LAt_take hcs _⟩) (by omega) (h:=[⟨0,41,[.v (.slice none 0 0)]⟩,⟨0,104,[.sl b (cutN ts p) m cs,.v (.int .i64 (p:Int)),.v (.slice none 0 0)]⟩]) (i:=1) (p:=p) (N:=.v (.slice none 0 0)) (ns:=[]) (by rw[hcut2];unfold cutN;omega) ⟨rfl,.inl ⟨rfl,rfl⟩⟩ (by rw[hcut2,BD];omega)) (fun r h1 hh=>?_) (fun v h' hh=>?_)
     rotate_left
     ·obtain⟨_,hh⟩:=hh;cases er:readP (ts.take (cutN ts p)) p with
      |bad q=>rw[er]at hh;cases hh
      |ok t q=>rw[er]at hh;cases hh.1
     obtain⟨f1,hh⟩:=hh;have k0:h1[0]?=some ⟨0,41,[.v (.slice none 0 0)]⟩:=f1.at rfl fun h=>h.elim (fun e=>by cases e) fun e=>e
     have kz:∀ b,(h1.set 0 b)[0]?=some b:=fun b=>Be (Bs.1 k0).1
     cases er:readP (ts.take (cutN ts p)) p with
     |bad q=>
      rw[er]at hh hR;have hh:Out.ret r=Out.ret (.v (.int .i64 (q:Int))):=hh;cases hh;have d4:decide ((0:Int)≤(q:Int))=true:=decide_eq_true (by omega);rw[hR];simp only[tyZ,k0,kz,ty41,nodesA,evE,Nat.reduceLT,Nat.reduceLeDiff,Nat.reduceEqDiff,reduceCtorEq]
     |ok t q=>
      rw[er]at hh hR;obtain⟨eo,N',r1,n1⟩:=hh;cases eo;have hr1:h1[1]?=_:=r1.1;have d4:decide ((0:Int) ≤ -1)=false:=by decide
      have hadv:=pr_adv _ _ _ _ _ _ (by rw[hcut2];unfold cutN;omega) er;obtain⟨⟨g1,g2⟩,g3⟩:=hadv;have hwf:=pr_wf _ _ _ _ _ _ (fun n a e=>by cases e) er;have hsz:t.size≤2000001:=(by rw[hcut2]at *;omega);have hN:=r1.2;rw[Bi,BD]at hN;have hlen:=lay_length t 0;have hps:=size_pos t;obtain⟨j,ver,rfl,hj⟩:=hN.own (by omega);simp only[hr1,evE,tyX,Nat.reduceLT,Nat.reduceEqDiff,reduceCtorEq,Int.reduceLE];refine CallE.pure (CallK.lend c61 _ (lend1 hj BB (nds_v _)) (limits_ev t hwf (by omega)) rfl ?_)
      by_cases hk:limK t.size t.deep=0
      ·have d5:(limK t.size t.deep != 0)=false:=by simpa using hk
       have hj0:j≠0:=fun e=>by subst e;rw[k0]at hj;cases hj
       have kx:∀ b,(h1.set 0 b)[1]?=some _:=fun b=>(Bn (by decide)).trans hr1
       rw[hR];simp only[if_pos hk];simp only[d5,evE,Nat.reduceLT,Nat.reduceEqDiff,reduceCtorEq];refine DrawK.orders [[0,1,2,3,4,5,6,7,8,9,10,11],[0,1,2,3,4,9,5,6,7,8,10,11],[0,1,2,3,4,5,9,6,7,8,10,11],[0,1,2,3,4,5,6,9,7,8,10,11],[0,1,2,3,4,5,6,7,9,8,10,11]] (by kernel_rfl) (by kernel_rfl) (by kernel_rfl) (fun p hp=>?_);simp only[BI,List.not_mem_nil,or_false]at hp
       rcases hp with rfl|rfl|rfl|rfl|rfl
       all_goals simp only[seqT,BU,Bu,Bz,tyZ,hr1,kx,k0,kz,ty41,evE,tyX,Nat.reduceLT,Nat.reduceLeDiff,Nat.reduceEqDiff,reduceCtorEq]
       all_goals exact fz_nodes ((Bn (Ne.symm hj0)).trans hj) (by omega)
      ·have d5:(limK t.size t.deep != 0)=true:=by simpa using hk
       rw[hR];simp only[if_neg hk];simp only[tyZ,d5,k0,kz,ty41,nodesA,evE,Nat.reduceLT,Nat.reduceLeDiff,Nat.reduceEqDiff,reduceCtorEq]
    ·have e0:idxR (ts.drop p) = -1:=by unfold idxR;rw[if_neg hb]
     have dm:decide ((0:Int) ≤ -1)=false:=by decide
     have hcut:cutN ts p=ts.length:=by have:=stN_le (ts.drop p);unfold cutN;omega
     simp only[e0,evE,Nat.reduceLT,Nat.reduceEqDiff,reduceCtorEq,Int.reduceLE];have hcut2:(ts.take (cutN ts p)).length=ts.length:=by rw[Bh];omega
     refine CallE.intro c60 _ (read_ev (ts:=ts.take (cutN ts p)) (.inr ⟨b,m,cs,by rw[hcut2],LAt_take hcs _⟩) (by omega) (h:=[⟨0,41,[.v (.slice none 0 0)]⟩,⟨0,104,[.sl b ts.length m cs,.v (.int .i64 (p:Int)),.v (.slice none 0 0)]⟩]) (i:=1) (p:=p) (N:=.v (.slice none 0 0)) (ns:=[]) (by rw[hcut2];omega) ⟨rfl,.inl ⟨rfl,rfl⟩⟩ (by rw[hcut2,BD];omega)) (fun r h1 hh=>?_) (fun v h' hh=>?_)
     rotate_left
     ·obtain⟨_,hh⟩:=hh;cases er:readP (ts.take (cutN ts p)) p with
      |bad q=>rw[er]at hh;cases hh
      |ok t q=>rw[er]at hh;cases hh.1
     obtain⟨f1,hh⟩:=hh;have k0:h1[0]?=some ⟨0,41,[.v (.slice none 0 0)]⟩:=f1.at rfl fun h=>h.elim (fun e=>by cases e) fun e=>e
     have kz:∀ b,(h1.set 0 b)[0]?=some b:=fun b=>Be (Bs.1 k0).1
     cases er:readP (ts.take (cutN ts p)) p with
     |bad q=>
      rw[er]at hh hR;have hh:Out.ret r=Out.ret (.v (.int .i64 (q:Int))):=hh;cases hh;have d4:decide ((0:Int)≤(q:Int))=true:=decide_eq_true (by omega);rw[hR];simp only[tyZ,k0,kz,ty41,nodesA,evE,Nat.reduceLT,Nat.reduceLeDiff,Nat.reduceEqDiff,reduceCtorEq]
     |ok t q=>
      rw[er]at hh hR;obtain⟨eo,N',r1,n1⟩:=hh;cases eo;have hr1:h1[1]?=_:=r1.1;have d4:decide ((0:Int) ≤ -1)=false:=by decide
      have hadv:=pr_adv _ _ _ _ _ _ (by rw[hcut2];omega) er;obtain⟨⟨g1,g2⟩,g3⟩:=hadv;have hwf:=pr_wf _ _ _ _ _ _ (fun n a e=>by cases e) er;have hsz:t.size≤2000001:=(by rw[hcut2]at *;omega);have hN:=r1.2;rw[Bi,BD]at hN;have hlen:=lay_length t 0;have hps:=size_pos t;obtain⟨j,ver,rfl,hj⟩:=hN.own (by omega);simp only[hr1,evE,tyX,Nat.reduceLT,Nat.reduceEqDiff,reduceCtorEq,Int.reduceLE];refine CallE.pure (CallK.lend c61 _ (lend1 hj BB (nds_v _)) (limits_ev t hwf (by omega)) rfl ?_)
      by_cases hk:limK t.size t.deep=0
      ·have d5:(limK t.size t.deep != 0)=false:=by simpa using hk
       have hj0:j≠0:=fun e=>by subst e;rw[k0]at hj;cases hj
       have kx:∀ b,(h1.set 0 b)[1]?=some _:=fun b=>(Bn (by decide)).trans hr1
       rw[hR];simp only[if_pos hk];simp only[d5,evE,Nat.reduceLT,Nat.reduceEqDiff,reduceCtorEq];refine DrawK.orders [[0,1,2,3,4,5,6,7,8,9,10,11],[0,1,2,3,4,9,5,6,7,8,10,11],[0,1,2,3,4,5,9,6,7,8,10,11],[0,1,2,3,4,5,6,9,7,8,10,11],[0,1,2,3,4,5,6,7,9,8,10,11]] (by kernel_rfl) (by kernel_rfl) (by kernel_rfl) (fun p hp=>?_);simp only[BI,List.not_mem_nil,or_false]at hp
       rcases hp with rfl|rfl|rfl|rfl|rfl
       all_goals simp only[seqT,BU,Bu,Bz,tyZ,hr1,kx,k0,kz,ty41,evE,tyX,Nat.reduceLT,Nat.reduceLeDiff,Nat.reduceEqDiff,reduceCtorEq]
       all_goals exact fz_nodes ((Bn (Ne.symm hj0)).trans hj) (by omega)
      ·have d5:(limK t.size t.deep != 0)=true:=by simpa using hk
       rw[hR];simp only[if_neg hk];simp only[tyZ,d5,k0,kz,ty41,nodesA,evE,Nat.reduceLT,Nat.reduceLeDiff,Nat.reduceEqDiff,reduceCtorEq]
def n1:List UInt8:=[105,110,116]
def n2:List UInt8:=[114,101,97,108]
def n3:List UInt8:=[99,111,109,112]
def n4:List UInt8:=[116,101,120,116]
def n5:List UInt8:=[98,111,111,108]
def typeF(l:List UInt8):Int×Bool:=if l=n1 then (1,true)else if l=n2 then (2,true)else if l=n3 then (3,true)else if l=n4 then (4,true)else if l=n5 then (5,true)else (0,false)
end Go.Proofs.YtlobiioioicmhaaGreatDoor
