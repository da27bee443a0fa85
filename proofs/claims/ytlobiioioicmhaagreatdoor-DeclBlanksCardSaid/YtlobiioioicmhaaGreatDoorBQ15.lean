/- A part of the proof. -/
import Derived.Test.YtlobiioioicmhaaGreatDoorBQ14
set_option linter.all false
set_option maxHeartbeats 8000000
namespace Go.Proofs.YtlobiioioicmhaaGreatDoor
open _root_.Bool renaming not_true→Bv,not_false→Bf
open _root_.List renaming getElem?_eq_some_iff→Bs,length_append→Bp,cons_append→Bc,nil_append→Bi,getElem?_map→Bm,length_map→Bk,length_drop→Bd,mem_singleton→Bj,map_cons→BA,prefix_rfl→BB,length_nil→BD,flatMap_cons→BE,append_nil→BS
open _root_.Nat renaming zero_le→BN
open Go.Proofs.Tryz renaming prog→Tp
open Go Go.Ev
set_option maxRecDepth 20000
variable {γ:List (Nat×AV)}
theorem tyP8:elemT Tp 78=some 3∧elemT Tp 68=some 137∧elemT Tp 69=some 90∧elemT Tp 88=some 59∧fieldT Tp 137 0=some (0,9)∧fieldT Tp 90 0=some (0,9)∧placesT Tp 71=some [(0,1),(1,1)]:=
 (by and_intros<;>kernel_rfl)
theorem c83:bodyT Tp 83:=⟨_,Tryz.func83,by kernel_rfl,by kernel_rfl⟩
theorem c84:bodyT Tp 84:=⟨_,Tryz.func84,by kernel_rfl,by kernel_rfl⟩
theorem c39:bodyT Tp 39:=⟨_,Tryz.func39,by kernel_rfl,by kernel_rfl⟩
theorem lenSl(t e:TypeId)(he:elemT Tp t=some e)(s:List ABlk)(n:Nat)(cs:List AV):lenS Tp t s (slA n cs)=some (.v (.int .i64 n)):=by
 cases n with
 |zero=>simp only[slA,lenS,he];rfl
 |succ n=>simp only[slA,lenS,he];rfl
theorem slA_pos{n k:Nat}(h:k<n)(cs:List AV):slA n cs=.sl false n n cs:=by
 cases n with
 |zero=>omega
 |succ n=>rfl
theorem oneSl(n:Nat)(cs:List AV):oneA (slA n cs)=true:=by cases n<;>rfl
def tgS(γ:List (Nat×AV))(c:Tg)(k:Nat):St:=⟨⟨38,[(2,.ptr 0 0 0),(3,.ptr 1 0 0),(5,.v (.int .i64 (k:Int)))],γ⟩,[⟨0,137,c.cells⟩,⟨0,137,c.cells⟩]⟩
theorem tags_ev(c:Tg)(ok:c.types.length≤2000000):Ev Tp γ 83 [c.av,c.av] (.v (.bool true)):=by
 have ll:=fun s=>lenSl 78 3 tyP8.1 s c.types.length (c.types.map intC)
 have fo:=oneSl c.types.length (c.types.map intC);have z1:(c.name != c.name)=false:=by simp
 have d1:(((c.types.length:Nat):Int) != ((c.types.length:Nat):Int))=false:=by simp
 refine Ev.ofE Tryz.func83 rfl ?_;simp only[Tryz.f83,tyD,tyP8,Tg.av,Tg.cells,intsA,strC,fo,ll,d1,evE,tyX,Bv,Nat.reduceAdd,Nat.reduceSub,Nat.reduceLT,Nat.reduceEqDiff,reduceCtorEq];refine LoopE.intro (tgS γ c) (fun k=>k≤c.types.length) (fun k=>c.types.length-k) 0 ⟨rfl,rfl,⟨rfl,rfl,rfl,trivial⟩,rfl⟩ (BN _) (fun k hk=>?_)
 by_cases hlt:k<c.types.length
 ·have d2:decide (k<c.types.length)=true:=decide_eq_true hlt;have eS:=slA_pos hlt (c.types.map intC);obtain⟨x,hxk⟩:∃ x,c.types[k]?=some x:=⟨c.types[k],by simp[hlt]⟩;have hc:(c.types.map intC)[k]?=some (.v (.int .i64 x)):=by rw[Bm,hxk];rfl
  have zx:(x != x)=false:=by simp
  have w1:IntKind.i64.wrap ((k:Int)+1)=((k+1:Nat):Int):=(i64w (by omega) (by omega)).trans (by omega);simp only[tgS,tyD,Tg.cells,intsA,strC,ll,d2,evE,Nat.reduceLT,Nat.reduceEqDiff,reduceCtorEq];refine dI ?_;simp only[tyD,tyP8,eS,hc,zx,w1,evE,tyX,Nat.reduceLT,Nat.reduceEqDiff,reduceCtorEq];exact⟨hlt,hlt,loopCE.intro (k+1) hlt ⟨rfl,rfl,⟨rfl,rfl,rfl,trivial⟩,by simp only[tgS,Tg.cells,intsA,strC,eS]⟩ (by show c.types.length-(k+1)<c.types.length-k;clear w1;omega)⟩
 ·have d2:decide (k<c.types.length)=false:=decide_eq_false hlt;simp only[tgS,tyD,Tg.cells,intsA,strC,ll,d2,evE,Nat.reduceLT,Nat.reduceEqDiff,reduceCtorEq]
def okTg(t:Tg):Prop:=t.types.length≤2000000
def okKd(k:Kd):Prop:=k.chords.length≤2000000∧∀ c∈k.chords,okCh c
def okPg(g:Pg):Prop:=g.tags.length≤2000000∧(∀ t∈g.tags,okTg t)∧g.kinds.length≤2000000∧∀ k∈g.kinds,okKd k
def Kd.av(k:Kd):AV:=.agg k.cells
def kdS(γ:List (Nat×AV))(c:Kd)(k:Nat):St:=⟨⟨39,[(2,.ptr 0 0 0),(3,.ptr 1 0 0),(5,.v (.int .i64 (k:Int)))],γ⟩,[⟨0,90,c.cells⟩,⟨0,90,c.cells⟩]⟩
theorem treeCh(x:Ch):treeL [x.av,x.av]=true:=by
 cases h1:x.parts<;>cases h2:x.guard<;>cases h3:x.body<;>simp only[Ch.av,Ch.cells,h1,h2,h3]<;>rfl
theorem kinds_ev(c:Kd)(ok:okKd c):Ev Tp γ 84 [c.av,c.av] (.v (.bool true)):=by
 have ll:=fun s=>lenSl 88 59 tyP8.2.2.2.1 s c.chords.length (c.chords.flatMap Ch.cells)
 have fo:=oneSl c.chords.length (c.chords.flatMap Ch.cells);have z1:(c.name != c.name)=false:=by simp
 have d1:(((c.chords.length:Nat):Int) != ((c.chords.length:Nat):Int))=false:=by simp
 have hn:=ok.1;refine Ev.ofE Tryz.func84 rfl ?_;simp only[Tryz.f84,tyD,tyP8,Kd.av,Kd.cells,chordsA,strC,fo,ll,d1,evE,tyX,Bv,Nat.reduceAdd,Nat.reduceSub,Nat.reduceLT,Nat.reduceEqDiff,reduceCtorEq];refine LoopE.intro (kdS γ c) (fun k=>k≤c.chords.length) (fun k=>c.chords.length-k) 0 ⟨rfl,rfl,⟨rfl,rfl,rfl,trivial⟩,rfl⟩ (BN _) (fun k hk=>?_)
 by_cases hlt:k<c.chords.length
 ·have d2:decide (k<c.chords.length)=true:=decide_eq_true hlt;have eS:=slA_pos hlt (c.chords.flatMap Ch.cells);obtain⟨x,hxk⟩:∃ x,c.chords[k]?=some x:=⟨c.chords[k],by simp[hlt]⟩;obtain⟨t4,l4⟩:=flat_drop (f:=Ch.cells) (m:=4) (fun _=>rfl) c.chords k x hxk;have h4l:4≤((c.chords.flatMap Ch.cells).drop (k * 4)).length:=by rw[Bd];omega
  have hce:=chords_ev (γ:=γ) x (ok.2 x (List.mem_of_getElem? hxk));have w1:IntKind.i64.wrap ((k:Int)+1)=((k+1:Nat):Int):=(i64w (by omega) (by omega)).trans (by omega);simp only[kdS,tyD,Kd.cells,chordsA,strC,ll,d2,evE,Nat.reduceLT,Nat.reduceEqDiff,reduceCtorEq];refine dI ?_;simp only[tyD,tyP8,eS,t4,h4l,evE,Nat.reduceLT,Nat.reduceEqDiff,reduceCtorEq];refine⟨hlt,hlt,CallK.intro c34 (treeCh x) hce ?_⟩;simp only[w1,evE,Bv,Nat.reduceLT,Nat.reduceEqDiff,reduceCtorEq];exact loopCE.intro (k+1) hlt ⟨rfl,rfl,⟨rfl,rfl,rfl,trivial⟩,by simp only[kdS,Kd.cells,chordsA,strC,eS]⟩ (by show c.chords.length-(k+1)<c.chords.length-k;clear w1;omega)
 ·have d2:decide (k<c.chords.length)=false:=decide_eq_false hlt;simp only[kdS,tyD,Kd.cells,chordsA,strC,ll,d2,evE,Nat.reduceLT,Nat.reduceEqDiff,reduceCtorEq]
def slB(b:Bool)(n:Nat)(cs:List AV):AV:=match n with
 |0=>.v (.slice none 0 0)
 |_+1=>.sl b n n cs
theorem lenSlB(t e:TypeId)(he:elemT Tp t=some e)(b:Bool)(s:List ABlk)(n:Nat)(cs:List AV):lenS Tp t s (slB b n cs)=some (.v (.int .i64 n)):=by
 cases n with
 |zero=>simp only[slB,lenS,he];rfl
 |succ n=>simp only[slB,lenS,he];rfl
theorem slB_pos{n k:Nat}(h:k<n)(b:Bool)(cs:List AV):slB b n cs=.sl b n n cs:=by
 cases n with
 |zero=>omega
 |succ n=>rfl
theorem oneSlB(b:Bool)(n:Nat)(cs:List AV):oneA (slB b n cs)=true:=by cases n<;>rfl
theorem slB_false(n:Nat)(cs:List AV):slB false n cs=slA n cs:=by cases n<;>rfl
def Pg.cellsB(b:Bool)(c:Pg):List AV:=[slB b c.tags.length (c.tags.flatMap Tg.cells),slB b c.kinds.length (c.kinds.flatMap Kd.cells)]
def pgS(γ:List (Nat×AV))(b:Bool)(c:Pg)(k:Nat):St:=⟨⟨61,[(2,.ptr 0 0 0),(3,.ptr 1 0 0),(5,.v (.int .i64 (k:Int)))],γ⟩,[⟨0,71,c.cells⟩,⟨0,71,c.cellsB b⟩]⟩
def pge(γ:List (Nat×AV))(b:Bool)(c:Pg)(k:Nat):St:=⟨⟨61,[(2,.ptr 0 0 0),(3,.ptr 1 0 0),(6,.v (.int .i64 (k:Int)))],γ⟩,[⟨0,71,c.cells⟩,⟨0,71,c.cellsB b⟩]⟩
theorem treeTg(x:Tg):treeL [x.av,x.av]=true:=by
 cases h1:x.types<;>simp only[Tg.av,Tg.cells,h1]<;>rfl
theorem treeKd(x:Kd):treeL [x.av,x.av]=true:=by
 cases h1:x.chords<;>simp only[Kd.av,Kd.cells,h1]<;>rfl
theorem progsB_ev(b:Bool)(c:Pg)(ok:okPg c):Ev Tp γ 39 [c.av,.agg (c.cellsB b)] (.v (.bool true)):=by
 obtain⟨ok1,ok2,ok3,ok4⟩:=ok;have lt:=fun s=>lenSl 68 137 tyP8.2.1 s c.tags.length (c.tags.flatMap Tg.cells)
 have lk:=fun s=>lenSl 69 90 tyP8.2.2.1 s c.kinds.length (c.kinds.flatMap Kd.cells)
 have ltB:=fun s=>lenSlB 68 137 tyP8.2.1 b s c.tags.length (c.tags.flatMap Tg.cells)
 have lkB:=fun s=>lenSlB 69 90 tyP8.2.2.1 b s c.kinds.length (c.kinds.flatMap Kd.cells)
 have ftB:=oneSlB b c.tags.length (c.tags.flatMap Tg.cells);have fkB:=oneSlB b c.kinds.length (c.kinds.flatMap Kd.cells);have ft:=oneSl c.tags.length (c.tags.flatMap Tg.cells);have fk:=oneSl c.kinds.length (c.kinds.flatMap Kd.cells);have d1:(((c.tags.length:Nat):Int) != ((c.tags.length:Nat):Int))=false:=by simp
 have d2:(((c.kinds.length:Nat):Int) != ((c.kinds.length:Nat):Int))=false:=by simp
 refine Ev.ofE Tryz.func39 rfl ?_;simp only[Tryz.f39,tyD,Pg.av,Pg.cells,Pg.cellsB,tagsA,kindsA,ft,fk,lt,lk,ftB,fkB,ltB,lkB,d1,d2,evE,Nat.reduceAdd,Nat.reduceSub,Nat.reduceLT,Nat.reduceEqDiff,reduceCtorEq];refine LoopE.intro (pgS γ b c) (fun k=>k≤c.tags.length) (fun k=>c.tags.length-k) 0 ⟨rfl,rfl,⟨rfl,rfl,rfl,trivial⟩,rfl⟩ (BN _) (fun k hk=>?_)
 by_cases hlt:k<c.tags.length
 ·have e1:decide (k<c.tags.length)=true:=decide_eq_true hlt;have eS:=slA_pos hlt (c.tags.flatMap Tg.cells);have eB:=slB_pos hlt b (c.tags.flatMap Tg.cells);obtain⟨x,hxk⟩:∃ x,c.tags[k]?=some x:=⟨c.tags[k],by simp[hlt]⟩;obtain⟨t2,l2⟩:=flat_drop (f:=Tg.cells) (m:=2) (fun _=>rfl) c.tags k x hxk;have h2l:2≤((c.tags.flatMap Tg.cells).drop (k * 2)).length:=by rw[Bd];omega
  have hce:=tags_ev (γ:=γ) x (ok2 x (List.mem_of_getElem? hxk));have w1:IntKind.i64.wrap ((k:Int)+1)=((k+1:Nat):Int):=(i64w (by omega) (by omega)).trans (by omega);simp only[pgS,tyD,Pg.cells,Pg.cellsB,tagsA,kindsA,lt,e1,evE,Nat.reduceLT,Nat.reduceEqDiff,reduceCtorEq];refine dI ?_;simp only[tyD,tyP8,eS,eB,t2,h2l,evE,Nat.reduceLT,Nat.reduceEqDiff,reduceCtorEq];refine⟨hlt,hlt,CallK.intro c83 (treeTg x) hce ?_⟩;simp only[w1,evE,Bv,Nat.reduceLT,Nat.reduceEqDiff,reduceCtorEq];exact loopCE.intro (k+1) hlt ⟨rfl,rfl,⟨rfl,rfl,rfl,trivial⟩,by simp only[pgS,Pg.cells,Pg.cellsB,tagsA,kindsA,eS,eB]⟩ (by show c.tags.length-(k+1)<c.tags.length-k;clear w1;omega)
 ·have e1:decide (k<c.tags.length)=false:=decide_eq_false hlt;simp only[pgS,tyD,Pg.cells,Pg.cellsB,tagsA,kindsA,lt,e1,evE,Nat.reduceLT,Nat.reduceEqDiff,reduceCtorEq];refine LoopE.intro (pge γ b c) (fun k=>k≤c.kinds.length) (fun k=>c.kinds.length-k) 0 ⟨rfl,rfl,⟨rfl,rfl,rfl,trivial⟩,rfl⟩ (BN _) (fun k hk=>?_)
  by_cases hlt:k<c.kinds.length
  ·have e1:decide (k<c.kinds.length)=true:=decide_eq_true hlt;have eS:=slA_pos hlt (c.kinds.flatMap Kd.cells);have eB:=slB_pos hlt b (c.kinds.flatMap Kd.cells);obtain⟨x,hxk⟩:∃ x,c.kinds[k]?=some x:=⟨c.kinds[k],by simp[hlt]⟩;obtain⟨t2,l2⟩:=flat_drop (f:=Kd.cells) (m:=2) (fun _=>rfl) c.kinds k x hxk;have h2l:2≤((c.kinds.flatMap Kd.cells).drop (k * 2)).length:=by rw[Bd];omega
   have hce:=kinds_ev (γ:=γ) x (ok4 x (List.mem_of_getElem? hxk));have w1:IntKind.i64.wrap ((k:Int)+1)=((k+1:Nat):Int):=(i64w (by omega) (by omega)).trans (by omega);simp only[pge,tyD,Pg.cells,Pg.cellsB,tagsA,kindsA,lk,e1,evE,Nat.reduceLT,Nat.reduceEqDiff,reduceCtorEq];refine dI ?_;simp only[tyD,tyP8,eS,eB,t2,h2l,evE,Nat.reduceLT,Nat.reduceEqDiff,reduceCtorEq];refine⟨hlt,hlt,CallK.intro c84 (treeKd x) hce ?_⟩;simp only[w1,evE,Bv,Nat.reduceLT,Nat.reduceEqDiff,reduceCtorEq];exact loopCE.intro (k+1) hlt ⟨rfl,rfl,⟨rfl,rfl,rfl,trivial⟩,by simp only[pge,Pg.cells,Pg.cellsB,tagsA,kindsA,eS,eB]⟩ (by show c.kinds.length-(k+1)<c.kinds.length-k;clear w1;omega)
  ·have e1:decide (k<c.kinds.length)=false:=decide_eq_false hlt;simp only[pge,tyD,Pg.cells,Pg.cellsB,tagsA,kindsA,lk,e1,evE,Nat.reduceLT,Nat.reduceEqDiff,reduceCtorEq]
theorem progs_ev(c:Pg)(ok:okPg c):Ev Tp γ 39 [c.av,c.av] (.v (.bool true)):=by
 have:=progsB_ev (γ:=γ) false c ok;simp only[Pg.cellsB,slB_false]at this;exact this
theorem noBorL_v:∀ ys:List AV,(∀ y∈ys,∃ v,y=AV.v v)→noBorL ys=true
 |[],_=>by simp only[noBorL]
 |y::ys,h=>by
  obtain⟨v,rfl⟩:=h y (List.mem_cons_self ..);simp only[noBorL,noBor,Bool.true_and];exact noBorL_v ys fun z hz=>h z (List.mem_cons_of_mem _ hz)
theorem noBor_nodes(ns:List Nd):noBor (nodesA ns)=true:=by
 cases ns with
 |nil=>rfl
 |cons x r=>simp only[nodesA,noBor,Bf,Bool.true_and];exact noBorL_v _ (nds_v _)
theorem noBorL_app:∀ xs ys:List AV,noBorL (xs++ys)=(noBorL xs&&noBorL ys)
 |[],ys=>by simp only[Bi,noBorL,Bool.true_and]
 |x::xs,ys=>by simp only[Bc,noBorL,noBorL_app xs ys,Bool.and_assoc]
theorem noBor_slA{n:Nat}{cs:List AV}(h:noBorL cs=true):noBor (slA n cs)=true:=by
 cases n with
 |zero=>rfl
 |succ n=>simp only[slA,noBor,Bf,Bool.true_and];exact h
theorem noBorL_flat{α:Type}{f:α→List AV}(hf:∀ x,noBorL (f x)=true):∀ l:List α,noBorL (l.flatMap f)=true
 |[]=>by simp only[List.flatMap_nil,noBorL]
 |x::l=>by rw[BE,noBorL_app,hf x,noBorL_flat hf l];rfl
theorem noBorL_map{α:Type}{f:α→AV}(hf:∀ x,noBor (f x)=true):∀ l:List α,noBorL (l.map f)=true
 |[]=>by simp only[List.map_nil,noBorL]
 |x::l=>by rw[BA];simp only[noBorL,hf x,noBorL_map hf l,Bool.and_self]
theorem noBor_strs(l:List (List UInt8)):noBor (strsA l)=true:=noBor_slA (noBorL_map (fun _=>rfl) l)
theorem noBor_ch(c:Ch):noBorL c.cells=true:=by
 simp only[Ch.cells,noBorL,strC,noBor_nodes,partsA,actsA,noBor_slA (noBorL_flat (f:=Pt.cells) (fun p=>by simp only[Pt.cells,noBorL,strC,noBor,noBor_strs,Bool.and_self]) c.parts),noBor_slA (noBorL_flat (f:=Ac.cells) (fun a=>by simp only[Ac.cells,noBorL,strC,intC,noBor,noBor_nodes,expsA,noBor_slA (noBorL_map noBor_nodes a.args),Bool.and_self]) c.body),noBor,Bool.and_self]
theorem noBor_tg(c:Tg):noBorL c.cells=true:=by
 simp only[Tg.cells,noBorL,strC,intsA,noBor_slA (noBorL_map (f:=intC) (fun _=>rfl) c.types),noBor,Bool.and_self]
theorem noBor_kd(c:Kd):noBorL c.cells=true:=by
 simp only[Kd.cells,noBorL,strC,chordsA,noBor_slA (noBorL_flat (f:=Ch.cells) noBor_ch c.chords),noBor,Bool.and_self]
theorem noBor_progO(l:List UInt8):noBor (progOA l)=true:=by
 simp only[progOA,noBor,noBorL,Pg.av,Pg.cells,intC,tagsA,kindsA,noBor_slA (noBorL_flat (f:=Tg.cells) noBor_tg (progO l).1.tags),noBor_slA (noBorL_flat (f:=Kd.cells) noBor_kd (progO l).1.kinds),Bool.and_self]
def awk1:List UInt8:=[116,97,103,32,97,40,105,110,116,41,59,32,107,105,110,100,32,107,32,123,32,99,104,111,114,100,32,99,58,32,97,40,110,41,32,119,104,101,110,32,110,32,60,32,50,32,123,32,98,101,99,111,109,101,32,107,59,32,125,32,125]
def awk2:List UInt8:=[116,97,103,32,97,40,98,111,111,108,41,59]
def oneKind(g:Pg):Bool:=match g.tags,g.kinds with
 |[_],[k]=>match k.chords with
  |[_]=>true
  |_=>false
 |_,_=>false
theorem awk1_ok:(oneKind (progO awk1).1&&(progO awk1).2.2==0)=true:=by kernel_rfl
theorem awk2_ok:((progO awk2).2.1==6&&(progO awk2).2.2==80)=true:=by kernel_rfl
theorem c40:bodyT Tp 40:=⟨_,Tryz.func40,by kernel_rfl,by kernel_rfl⟩
def prog1(g:Pg):Prop:=∃ t k c,g=⟨[t],[⟨k,[c]⟩]⟩
theorem prog1_of{g:Pg}(h:oneKind g=true):prog1 g:=by
 obtain⟨tg,kd⟩:=g;unfold oneKind at h
 split at h
 ·rename_i t k e1 e2;simp only at e1 e2;subst e1;subst e2;obtain⟨k,cs⟩:=k;simp only at h
  split at h
  ·rename_i c;exact⟨t,k,c,rfl⟩
  ·cases h
 ·cases h
theorem awake8_ev(hγ:Gl γ)(hγ2:GlW γ):Ev Tp γ 40 [] (.v (.bool true)):=by
 have hp1:=parse8_ev hγ hγ2 true awk1 (by decide);have hp2:=parse8_ev hγ hγ2 true awk2 (by decide);have hn1:=noBor_progO awk1;have hn2:=noBor_progO awk2;have k1:=awk1_ok;have k2:=awk2_ok;have b1:=bytes_v awk1;have b2:=bytes_v awk2;unfold progOA at hp1 hp2 hn1 hn2;have l1:awk1.length=61:=rfl;have l2:awk2.length=12:=rfl;rw[l1]at hp1;rw[l2]at hp2;generalize hm1:awk1.map byteC=cs1 at hp1 b1;generalize hm2:awk2.map byteC=cs2 at hp2 b2;generalize progO awk1=G1 at *;generalize progO awk2=G2 at *;obtain⟨g1,p1,e1⟩:=G1;obtain⟨g2,p2,e2⟩:=G2;simp only[Bool.and_eq_true,beq_iff_eq]at k1 k2 hp1 hp2 hn1 hn2;obtain⟨k11,rfl⟩:=k1;obtain⟨rfl,rfl⟩:=k2;obtain⟨t,k,c,rfl⟩:=prog1_of k11;obtain⟨A1,A2,hA⟩:∃ A1 A2,g2.av=.agg [A1,A2]∧oneA A1=true∧oneA A2=true∧flat A1=some [A1]∧flat A2=some [A2]:=⟨_,_,rfl,by cases g2.tags<;>rfl,by cases g2.kinds<;>rfl,by cases g2.tags<;>rfl,by cases g2.kinds<;>rfl⟩;obtain⟨hA,oA1,oA2,fA1,fA2⟩:=hA;rw[hA]at hp2 hn2;refine Ev.ofQ Tryz.func40 rfl fun X hP {a w} hs=>?_
 refine seqE hP hs (fun st=>st=⟨⟨52,[(0,.v (.bool false))],γ⟩,[]⟩) ?_ (fun φ1 st1 a1 w1 hs1 q1=>?_)
 ·simp only[Tryz.f40,evE,Nat.reduceLT]
 subst q1;refine seqL hP rfl rfl rfl hs1 rfl rfl (show 8<52 by decide) rfl (by kernel_rfl) (fun st=>slotW st ⟨⟨52,[(0,.v (.bool false)),(1,.ptr 1 0 0),(2,intC p1),(3,intC 0)],γ⟩,[⟨0,5,cs1⟩,⟨0,71,(Pg.mk [t] [⟨k,[c]⟩]).cells⟩]⟩) ?_ (fun φ2 st2 a2 w2 hs2 q2=>?_)
 ·refine buildSliceS_eq (r:=.own 0 0 61) (h:=[⟨0,5,cs1⟩]) (by subst hm1;kernel_rfl) ?_;show kopsE _ _ _ _ _ ⟨⟨52,[(9,.own 0 0 61),(8,.own 0 0 61),(0,.v (.bool false))],γ⟩,[⟨0,5,cs1⟩]⟩;simp only[evE,Nat.reduceEqDiff,reduceCtorEq];refine CallE.pure (CallK.lend c38 _ (lend1 (H:=[⟨0,5,cs1⟩]) (i:=0) (k:=⟨0,5,cs1⟩) rfl BB b1) hp1 hn1 ?_);simp only[tyD,Pg.av,Pg.cells,tagsA,kindsA,intC,slA,evE,Nat.reduceAdd,Nat.reduceLT,Nat.reduceLeDiff,Nat.reduceEqDiff,reduceCtorEq];exact⟨rfl,rfl,⟨rfl,rfl,rfl,rfl,trivial⟩,rfl⟩
 have hs3:=hs2.slotW q2;refine seqL hP rfl rfl rfl hs3 rfl rfl (show 15<52 by decide) rfl (by kernel_rfl) (fun st=>slotW st ⟨⟨52,[(0,.v (.bool false)),(1,.ptr 1 0 0),(2,intC p1),(3,intC 0),(4,.ptr 3 0 0),(5,intC 6),(6,intC 80)],γ⟩,[⟨0,5,cs1⟩,⟨0,71,(Pg.mk [t] [⟨k,[c]⟩]).cells⟩,⟨0,5,cs2⟩,⟨0,71,[A1,A2]⟩]⟩) ?_ (fun φ4 st4 a4 w4 hs4 q4=>?_)
 ·refine buildSliceS_eq (r:=.own 2 0 12) (h:=[⟨0,5,cs1⟩,⟨0,71,(Pg.mk [t] [⟨k,[c]⟩]).cells⟩,⟨0,5,cs2⟩]) (by subst hm2;kernel_rfl) ?_;show kopsE _ _ _ _ _ ⟨⟨52,[(16,.own 2 0 12),(15,.own 2 0 12),(0,.v (.bool false)),(1,.ptr 1 0 0),(2,intC p1),(3,intC 0)],γ⟩,[⟨0,5,cs1⟩,⟨0,71,(Pg.mk [t] [⟨k,[c]⟩]).cells⟩,⟨0,5,cs2⟩]⟩;simp only[evE,Nat.reduceEqDiff,reduceCtorEq];refine CallE.pure (CallK.lend c38 _ (lend1 (H:=[⟨0,5,cs1⟩,⟨0,71,(Pg.mk [t] [⟨k,[c]⟩]).cells⟩,⟨0,5,cs2⟩]) (i:=2) (k:=⟨0,5,cs2⟩) rfl BB b2) hp2 hn2 ?_);simp only[tyD,oA1,oA2,intC,evE,Nat.reduceAdd,Nat.reduceLT,Nat.reduceLeDiff,Nat.reduceEqDiff,reduceCtorEq];exact⟨rfl,rfl,⟨rfl,rfl,rfl,rfl,rfl,rfl,rfl,trivial⟩,rfl⟩
 have hs5:=hs4.slotW q4;refine tailE hP hs5 ?_;have e3:Kd.cells ⟨k,[c]⟩=[strC k,.sl false 1 1 (Ch.cells c++[])]:=rfl;have u1:(((1:Nat):Int)==1)=true:=rfl;have u6:((6:Int)==6)=true:=rfl;have u80:((80:Int)==80)=true:=rfl;have u0:((0:Int)==0)=true:=rfl;have hr:Tryz.f40.results.toList=[.tmp 0]:=by kernel_rfl
 simp only[hr,u0,u1,u6,u80,tyD,tyP8,Pg.cells,tagsA,kindsA,slA,BE,List.flatMap_nil,BS,e3,intC,evE,Nat.reduceLT,Nat.reduceLeDiff,Nat.reduceEqDiff,reduceCtorEq,Int.reduceLE]
 decide
def okTr:Tr→Prop
 |.lf _ _ vk _ vr vt=>vk≠3∧vr<18446744073709551616∧vt.length≤140737488351232
 |.un _ a=>okTr a
 |.bi _ a b=>okTr a∧okTr b
theorem nd0(k a b:Int):okNd ⟨k,a,b,[],0,0,0,[]⟩:=⟨(by decide:(0:Int)≠3),(by decide:0<18446744073709551616),BN _⟩
theorem okX_nil:okX []:=⟨BN _,fun _ h=>by cases h⟩
theorem lay_ok(t:Tr):∀ n,okTr t→∀ nd∈lay t n,okNd nd:=by
 induction t with
 |lf k nm vk vi vr vt=>intro n h nd hm;simp only[lay,Bj]at hm;subst hm;exact h
 |un k a ih=>
  intro n h nd hm;simp only[lay,List.mem_append,Bj]at hm
  rcases hm with hm|rfl
  ·exact ih n h nd hm
  ·exact nd0 k _ 0
 |bi k a b iha ihb=>
  intro n h nd hm;simp only[lay,List.mem_append,Bj]at hm
  rcases hm with (hm|hm)|rfl
  ·exact iha _ h.1 nd hm
  ·exact ihb _ h.2 nd hm
  ·exact nd0 k _ _
def okMd:Md→Prop
 |.lp _ a=>okTr a
 |_=>True
theorem prTr_ok(ts:List Tk)(hts:∀ t∈ts,okTk t):∀ (f:Nat) (m:Md) (p:Nat) (t:Tr) (q:Nat),okMd m→pr ts f m p=.ok t q→okTr t:=by
 intro f
 induction f with
 |zero=>intro m p t q _ h;cases m<;>cases h
 |succ f ih=>
  intro m p t q hm h;cases m with
  |bin n=>
   rw[pr]at h
   split at h
   ·exact ih .un _ _ _ trivial h
   ·split at h
    ·cases h
    ·rename_i a q' e;exact ih (.lp n a) _ _ _ (ih (.bin (n+1)) _ _ _ trivial e) h
  |lp n a=>
   rw[pr]at h
   split at h
   ·cases h;exact hm
   ·split at h
    ·cases h
    ·rename_i b q' e;have kb:=ih (.bin (n+1)) _ _ _ trivial e
     split at h
     ·cases h;exact And.intro hm kb
     ·exact ih (.lp n (.bi _ a b)) _ _ _ (And.intro hm kb) h
  |un=>
   rw[pr]at h
   split at h
   ·split at h
    ·cases h
    ·rename_i a q' e;have ka:=ih .un _ _ _ trivial e;cases h;exact ka
   ·exact ih .fs _ _ _ trivial h
  |fs=>
   rw[pr]at h
   split at h
   ·split at h
    ·cases h
    ·rename_i a q' e
     split at h
     ·cases h;exact ih (.bin 1) _ _ _ trivial e
     ·cases h
   ·split at h
    ·cases h
    ·rename_i t' e;have kt:=hts _ (List.mem_of_getElem? e)
     repeat' split at h
     all_goals first
      |(cases h;done)
      |(cases h;exact⟨by decide,by decide,by decide⟩)
      |(cases h;exact⟨(by decide:(2:Int)≠3),kt.2,by decide⟩)
      |(cases h;exact⟨(by decide:(4:Int)≠3),by decide,kt.1⟩)
      |exact ih (.nm _) _ _ _ trivial h
  |nm s=>
   rw[pr]at h
   split at h
   ·cases h;exact⟨by decide,by decide,by decide⟩
   split at h
   ·cases h;exact⟨by decide,by decide,by decide⟩
   split at h
   ·cases h;exact⟨by decide,by decide,by decide⟩
   split at h
   ·cases h
   split at h
   ·cases h
   rename_i a q' e;have ka:=ih (.bin 1) _ _ _ trivial e
   split at h
   ·split at h
    ·cases h
    split at h
    ·cases h
    rename_i b r e2;have kb:=ih (.bin 1) _ _ _ trivial e2
    split at h
    ·cases h;exact⟨ka,kb⟩
    ·cases h
   ·split at h
    ·cases h;exact ka
    ·cases h
def DR.all{α:Type}(P:α→Prop):DR α→Prop
 |.ok x _=>P x
 |.bad _ _=>True
theorem all_bind{α β:Type}{P:α→Prop}{Q:β→Prop}{r:DR α}{f:α→Nat→DR β}(h:r.all P)(hf:∀ x q,P x→(f x q).all Q):(r.bind f).all Q:=by
 cases r with
 |ok x q=>exact hf x q h
 |bad q e=>trivial
theorem all_any{α:Type}(r:DR α):r.all fun _=>True:=by cases r<;>trivial
def TokOk(ts:List Tk):Prop:=ts.length≤32769∧∀ t∈ts,okTk t
theorem expr_all{ts:List Tk}(h:TokOk ts)(p:Nat):(exprD ts p).all okX:=by
 unfold exprD
 split
 ·rename_i hz;show okX (readR ts p).1;unfold readR at hz⊢
  split
  ·exact okX_nil
  ·rename_i hn;rw[if_neg hn]at hz
   split
   ·exact okX_nil
   ·rename_i t q e
    split
    ·rename_i hk;refine⟨?_,lay_ok t 0 (prTr_ok _ (fun t ht=>h.2 t (List.mem_of_mem_take ht)) _ (.bin 1) _ _ _ trivial e)⟩;show (lay t 0).length≤_;rw[lay_length];unfold limK at hk
     by_cases h64:64<t.size
     ·rw[if_pos h64]at hk;cases hk
     ·omega
    ·exact okX_nil
 ·trivial
theorem more_all{α:Type}{P:α→Prop}{ts:List Tk}{I:Nat→DR α}(hI:∀ p,(I p).all P):∀ (f:Nat) (l:List α) (p:Nat),(∀ x∈l,P x)→(moreD ts I f l p).all fun r=>r.length≤l.length+f∧∀ x∈r,P x
 |0,l,p,_=>trivial
 |f+1,l,p,hl=>by
  rw[moreD]
  split
  ·exact⟨by omega,hl⟩
  split
  ·refine all_bind (hI _) fun x q hx=>?_
   have k:=more_all (ts:=ts) hI f (l++[x]) q (fun y hy=>(List.mem_append.1 hy).elim (hl y) fun hy=>by rw[Bj.1 hy];exact hx);rw[Bp]at k;cases e:moreD ts I f (l++[x]) q with
   |ok y z=>rw[e]at k;exact⟨by have:=k.1;simp only[List.length_singleton]at this;omega,k.2⟩
   |bad=>trivial
  ·trivial
theorem list_all{α:Type}{P:α→Prop}{ts:List Tk}{I:Nat→DR α}(h:ts.length≤32769)(hI:∀ p,(I p).all P)(p:Nat):(listD ts I p).all fun r=>r.length≤2000000∧∀ x∈r,P x:=by
 unfold listD;refine all_bind (all_any _) fun _ p1 _=>?_
 split
 ·exact⟨BN _,fun _ h=>by cases h⟩
 ·refine all_bind (hI _) fun x q hx=>?_
  have k:=more_all (ts:=ts) hI (ts.length+1) [x] q (fun y hy=>by rw[Bj.1 hy];exact hx);cases e:moreD ts I (ts.length+1) [x] q with
  |ok y z=>rw[e]at k;exact⟨by have:=k.1;simp only[List.length_singleton]at this;omega,k.2⟩
  |bad=>trivial
def okPt(p:Pt):Prop:=p.vars.length≤2000000
theorem part_all{ts:List Tk}(h:TokOk ts)(p:Nat):(partD ts p).all okPt:=by
 unfold partD;refine all_bind (all_any _) fun n p1 _=>?_
 exact all_bind (list_all h.1 (fun p=>all_any _) _) fun l p2 hl=>hl.1
theorem act_all{ts:List Tk}(h:TokOk ts)(p:Nat):(actD ts p).all okAc:=by
 have x0:okX []:=⟨by decide,fun _ h=>by cases h⟩;unfold actD
 split
 ·refine all_bind (expr_all h _) fun x p1 hx=>all_bind (all_any _) fun n p2 _=>all_bind (list_all h.1 (expr_all h) _) fun l p3 hl=>⟨hx,hl⟩
 split
 ·exact all_bind (all_any _) fun n p1 _=>all_bind (all_any _) fun _ p2 _=>all_bind (all_any _) fun v p3 _=>⟨x0,BN _,fun _ h=>by cases h⟩
 split
 ·exact all_bind (list_all h.1 (expr_all h) _) fun l p1 hl=>⟨x0,hl⟩
 split
 ·exact all_bind (all_any _) fun n p1 _=>⟨x0,BN _,fun _ h=>by cases h⟩
 ·trivial
theorem acts_all{ts:List Tk}(h:TokOk ts):∀ (f:Nat) (l:List Ac) (p:Nat),(∀ x∈l,okAc x)→(actsD ts f l p).all fun r=>r.length≤l.length+f∧∀ x∈r,okAc x
 |0,l,p,_=>trivial
 |f+1,l,p,hl=>by
  rw[actsD]
  split
  ·exact⟨by omega,hl⟩
  ·refine all_bind (act_all h _) fun a p1 ha=>all_bind (all_any _) fun _ p2 _=>?_
   have k:=acts_all h f (l++[a]) p2 (fun y hy=>(List.mem_append.1 hy).elim (hl y) fun hy=>by rw[Bj.1 hy];exact ha);rw[Bp]at k;cases e:actsD ts f (l++[a]) p2 with
   |ok y z=>rw[e]at k;exact⟨by have:=k.1;simp only[List.length_singleton]at this;omega,k.2⟩
   |bad=>trivial
theorem parts_all{ts:List Tk}(h:TokOk ts):∀ (f:Nat) (l:List Pt) (p:Nat),(∀ x∈l,okPt x)→(partsD ts f l p).all fun r=>r.length≤l.length+f∧∀ x∈r,okPt x
 |0,l,p,_=>trivial
 |f+1,l,p,hl=>by
  rw[partsD]
  split
  ·refine all_bind (part_all h _) fun a p1 ha=>?_
   have k:=parts_all h f (l++[a]) p1 (fun y hy=>(List.mem_append.1 hy).elim (hl y) fun hy=>by rw[Bj.1 hy];exact ha);rw[Bp]at k;cases e:partsD ts f (l++[a]) p1 with
   |ok y z=>rw[e]at k;exact⟨by have:=k.1;simp only[List.length_singleton]at this;omega,k.2⟩
   |bad=>trivial
  ·exact⟨by omega,hl⟩
theorem guard_all{ts:List Tk}(h:TokOk ts)(p:Nat):(guardD ts p).all okX:=by
 unfold guardD
 split
 ·exact expr_all h _
 ·exact⟨by decide,fun _ h=>by cases h⟩
theorem chord_all{ts:List Tk}(h:TokOk ts)(p:Nat):(chordD ts p).all okCh:=by
 have hb:=h.1;unfold chordD;refine all_bind (all_any _) fun _ p1 _=>all_bind (all_any _) fun n p2 _=>all_bind (all_any _) fun _ p3 _=>all_bind (part_all h _) fun x p4 hx=>?_
 refine all_bind (parts_all h _ [x] _ (fun y hy=>by rw[Bj.1 hy];exact hx)) fun l p5 hl=>all_bind (guard_all h _) fun g p6 hg=>?_
 unfold bodyD;refine all_bind (all_bind (all_any _) fun _ p7 _=>acts_all h _ [] _ (fun _ h=>by cases h)) fun b p8 hb2=>?_
 have h1:=hl.1;have h2:=hb2.1;simp only[List.length_singleton,BD]at h1 h2;exact⟨by show l.length≤_;omega,hl.2,hg,by show b.length≤_;omega,hb2.2⟩
theorem read_all{α:Type}{P:α→Prop}{z:α}{D:List Tk→DR α}(hz:P z)(hD:∀ ts,TokOk ts→(D ts).all P)(l:List UInt8):P (readO z D l).1:=by
 unfold readO
 split
 ·split<;>exact hz
 ·rename_i L e;have k:=hD (L.map tkOf) ⟨by rw[Bk];exact small_toks e,toks_ok e⟩
  split
  ·exact hz
  ·rename_i x q ex;rw[ex]at k
   split
   ·exact hz
   ·exact k
theorem tag_all{ts:List Tk}(h:TokOk ts)(p:Nat):(tagD ts p).all okTg:=by
 unfold tagD;refine all_bind (all_any _) fun n p1 _=>all_bind (list_all (P:=fun _=>True) h.1 (fun p=>all_any _) p1) fun l p2 hl=>all_bind (all_any _) fun _ p3 _=>?_
 exact hl.1
theorem chords_all{ts:List Tk}(h:TokOk ts):∀ (f:Nat) (l:List Ch) (p:Nat),(∀ x∈l,okCh x)→(chordsD ts f l p).all fun r=>r.length≤l.length+f∧∀ x∈r,okCh x
 |0,l,p,hl=>trivial
 |f+1,l,p,hl=>by
  rw[chordsD]
  split
  ·exact⟨by omega,hl⟩
  ·refine all_bind (chord_all h p) fun x q hx=>?_
   have k:=chords_all h f (l++[x]) q (fun y hy=>by
    rcases List.mem_append.1 hy with hy|hy
    ·exact hl y hy
    ·rw[Bj.1 hy];exact hx)
   cases e:chordsD ts f (l++[x]) q with
   |bad _ _=>trivial
   |ok r _=>
    rw[e]at k;have k1:r.length≤(l++[x]).length+f:=k.1;rw[Bp,List.length_singleton]at k1;exact⟨by show r.length≤_;omega,k.2⟩
theorem kind2_all{ts:List Tk}(h:TokOk ts)(p:Nat):(kindD2 ts p).all okKd:=by
 have hb:=h.1;unfold kindD2;refine all_bind (all_any _) fun _ p1 _=>all_bind (all_any _) fun n p2 _=>all_bind (all_any _) fun _ p3 _=>all_bind (chords_all h _ [] _ (fun _ h=>by cases h)) fun l p4 hl=>?_
 have h1:=hl.1;simp only[BD]at h1;exact⟨by show l.length≤_;omega,hl.2⟩
theorem prog_all{ts:List Tk}(h:TokOk ts):∀ (f:Nat) (g:Pg) (p:Nat),(∀ x∈g.tags,okTg x)→(∀ x∈g.kinds,okKd x)→(progD ts f g p).all fun r=>r.tags.length+r.kinds.length≤g.tags.length+g.kinds.length+f∧(∀ x∈r.tags,okTg x)∧∀ x∈r.kinds,okKd x
 |0,g,p,h1,h2=>trivial
 |f+1,g,p,h1,h2=>by
  have snoc:∀ {α:Type} {P:α→Prop} {l:List α} {x:α},(∀ y∈l,P y)→P x→∀ y∈l++[x],P y:=fun {α P l x} hl hx y hy=>by
   rcases List.mem_append.1 hy with hy|hy
   ·exact hl y hy
   ·rw[Bj.1 hy];exact hx
  rw[progD]
  split
  ·split
   ·refine all_bind (tag_all h _) fun x q hx=>?_
    have k:=prog_all h f ⟨g.tags++[x],g.kinds⟩ q (snoc h1 hx) h2;cases e:progD ts f ⟨g.tags++[x],g.kinds⟩ q with
    |bad _ _=>trivial
    |ok r _=>
     rw[e]at k;have k1:r.tags.length+r.kinds.length≤(g.tags++[x]).length+g.kinds.length+f:=k.1;rw[Bp,List.length_singleton]at k1;exact⟨by show r.tags.length+r.kinds.length≤_;omega,k.2⟩
   ·refine all_bind (kind2_all h _) fun x q hx=>?_
    have k:=prog_all h f ⟨g.tags,g.kinds++[x]⟩ q h1 (snoc h2 hx);cases e:progD ts f ⟨g.tags,g.kinds++[x]⟩ q with
    |bad _ _=>trivial
    |ok r _=>
     rw[e]at k;have k1:r.tags.length+r.kinds.length≤g.tags.length+(g.kinds++[x]).length+f:=k.1;rw[Bp,List.length_singleton]at k1;exact⟨by show r.tags.length+r.kinds.length≤_;omega,k.2⟩
  ·exact⟨by omega,h1,h2⟩
theorem progO_bnd(l:List UInt8):okPg (progO l).1:=read_all (P:=okPg) ⟨BN _,fun _ h=>(List.not_mem_nil h).elim,BN _,fun _ h=>(List.not_mem_nil h).elim⟩ (fun ts h=>by
 have hb:=h.1;have k:=prog_all h (ts.length+1) zPg 0 (fun _ h=>(List.not_mem_nil h).elim) (fun _ h=>(List.not_mem_nil h).elim);show (progD ts (ts.length+1) zPg 0).all okPg;cases e:progD ts (ts.length+1) zPg 0 with
 |bad _ _=>trivial
 |ok r _=>
  rw[e]at k;have k1:r.tags.length+r.kinds.length≤0+0+(ts.length+1):=k.1;exact⟨by show r.tags.length≤_;omega,k.2.1,by show r.kinds.length≤_;omega,k.2.2⟩) l
def prS(ts:List Tk)(R:Md→Nat→Res):Md→Nat→Res
 |.bin n,p=>if 5<n then R .un p else match R (.bin (n+1)) p with
  |.bad q=>.bad q
  |.ok a q=>R (.lp n a) q
 |.lp n a,p=>if opK (mkA ts p)=0∨levK (opK (mkA ts p))≠n then .ok a p else match R (.bin (n+1)) (p+1)with
  |.bad q=>.bad q
  |.ok b q=>if n=3 then .ok (.bi (opK (mkA ts p)) a b) q else R (.lp n (.bi (opK (mkA ts p)) a b)) q
 |.un,p=>if mkA ts p=[45]∨mkA ts p=[33]then match R .un (p+1)with
   |.bad q=>.bad q
   |.ok a q=>.ok (.un (if mkA ts p=[45]then 3 else 4) a) q
  else R .fs p
 |.fs,p=>if mkA ts p=[40]then match R (.bin 1) (p+1)with
   |.bad q=>.bad q
   |.ok a q=>if mkA ts q=[41]then .ok a (q+1)else .bad q
  else match ts[p]? with
  |none=>.bad p
  |some t=>if t.kind=5 then .bad p else if t.kind=2 then .ok (.lf 1 [] 1 t.int 0 []) (p+1)else if t.kind=3 then .ok (.lf 1 [] 2 0 t.real []) (p+1)
   else if t.kind=4 then .ok (.lf 1 [] 4 0 0 t.text) (p+1)else R (.nm t.text) (p+1)
 |.nm s,p=>if s=trueB then .ok (.lf 1 [] 5 1 0 []) p else if s=falseB then .ok (.lf 1 [] 5 0 0 []) p else if wordK s=0 then .ok (.lf 2 s 0 0 0 []) p
  else if mkA ts p≠[40]then .bad p else match R (.bin 1) (p+1)with
   |.bad q=>.bad q
   |.ok a q=>if kidsK (wordK s)=2 then (if mkA ts q≠[44]then .bad q else match R (.bin 1) (q+1)with
     |.bad r=>.bad r
     |.ok b r=>if mkA ts r=[41]then .ok (.bi (wordK s) a b) (r+1)else .bad r)
    else if mkA ts q=[41]then .ok (.un (wordK s) a) (q+1)else .bad q
theorem pr_step(ts:List Tk)(f:Nat)(m:Md)(p:Nat):pr ts (f+1) m p=prS ts (pr ts f) m p:=by
 cases m<;>rw[pr]<;>rfl
def Md.fine:Md→Prop
 |.bin n=>n≤6
 |.lp n _=>n≤5
 |_=>True
theorem pr_fuel1(ts:List Tk):∀ (f:Nat) (m:Md) (p:Nat),m.fine→p≤ts.length→m.need ts p≤f→pr ts (f+1) m p=pr ts f m p:=by
 intro f
 induction f with
 |zero=>intro m p hm hp hn;cases m<;>simp only[Md.need,Md.fine]at hn hm<;>omega
 |succ f ih=>
  intro m p hm hp hn;have adv:=pr_adv ts f;rw[pr_step,pr_step ts f];cases m with
  |bin n=>
   simp only[Md.need,Md.fine]at hn hm;simp only[prS]
   by_cases h5:5<n
   ·rw[if_pos h5,if_pos h5];exact ih .un p trivial hp (by simp only[Md.need];omega)
   ·rw[if_neg h5,if_neg h5,ih (.bin (n+1)) p (by simp only[Md.fine];omega) hp (by simp only[Md.need];omega)];cases e:pr ts f (.bin (n+1)) p with
    |bad q=>rfl
    |ok a q=>
     obtain⟨⟨h1,_⟩,h2⟩:=adv _ _ _ _ hp e;exact ih (.lp n a) q (by simp only[Md.fine];omega) h2 (by simp only[Md.need];omega)
  |lp n a=>
   simp only[Md.need,Md.fine]at hn hm;simp only[prS]
   split
   ·rfl
   ·rename_i hk;have hlt:=opK_lt (fun e=>hk (.inl e));rw[ih (.bin (n+1)) (p+1) (by simp only[Md.fine];omega) hlt (by simp only[Md.need];omega)];cases e:pr ts f (.bin (n+1)) (p+1)with
    |bad q=>rfl
    |ok b q=>
     obtain⟨⟨h1,_⟩,h2⟩:=adv _ _ _ _ (by omega) e;simp only[]
     split
     ·rfl
     ·exact ih (.lp n _) q (by simp only[Md.fine];omega) h2 (by simp only[Md.need];omega)
  |un=>
   simp only[Md.need]at hn;simp only[prS]
   split
   ·rename_i hm;have hlt:p<ts.length:=hm.elim mkA_eq mkA_eq;rw[ih .un (p+1) trivial hlt (by simp only[Md.need];omega)]
   ·exact ih .fs p trivial hp (by simp only[Md.need];omega)
  |fs=>
   simp only[Md.need]at hn;simp only[prS]
   split
   ·rename_i hm;have hlt:p<ts.length:=mkA_eq hm;rw[ih (.bin 1) (p+1) (by simp only[Md.fine];omega) hlt (by simp only[Md.need];omega)]
   ·split
    ·rfl
    ·rename_i t e;have hlt:p<ts.length:=(Bs.1 e).1;rw[ih (.nm t.text) (p+1) trivial hlt (by simp only[Md.need];omega)]
  |nm s=>
   simp only[Md.need]at hn;simp only[prS]
   split
   ·rfl
   split
   ·rfl
   split
   ·rfl
   split
   ·rfl
   rename_i hm;have hlt:p<ts.length:=mkA_eq (Decidable.not_not.1 hm);rw[ih (.bin 1) (p+1) (by simp only[Md.fine];omega) hlt (by simp only[Md.need];omega)];cases e:pr ts f (.bin 1) (p+1)with
   |bad q=>rfl
   |ok a q=>
    obtain⟨⟨h1,_⟩,h2⟩:=adv _ _ _ _ hlt e;simp only[]
    split
    ·split
     ·rfl
     ·rename_i hm2;have hlt2:q<ts.length:=mkA_eq (Decidable.not_not.1 hm2);rw[ih (.bin 1) (q+1) (by simp only[Md.fine];omega) hlt2 (by simp only[Md.need];omega)]
    ·rfl
theorem pr_fuel(ts:List Tk){m:Md}{p:Nat}(hm:m.fine)(hp:p≤ts.length){f:Nat}(h:m.need ts p≤f):∀ k,pr ts (f+k) m p=pr ts f m p
 |0=>rfl
 |k+1=>(pr_fuel1 ts (f+k) m p hm hp (by omega)).trans (pr_fuel ts hm hp h k)
theorem readP_fuel(ts:List Tk){p:Nat}(hp:p≤ts.length){f:Nat}(h:16 * ts.length+16≤f):pr ts f (.bin 1) p=readP ts p:=by
 unfold readP;obtain⟨k,rfl⟩:∃ k,f=16 * ts.length+16+k:=⟨f-(16 * ts.length+16),by omega⟩;exact pr_fuel ts (m:=.bin 1) (show 1≤6 by decide) hp (by simp only[Md.need];omega) k
def np(t:Tk):Tk:={ t with pos:=0 }
theorem mkA_np(ts:List Tk)(p:Nat):mkA (ts.map np) p=mkA ts p:=by
 unfold mkA;rw[Bm];cases ts[p]?<;>rfl
theorem prS_np(ts:List Tk)(R:Md→Nat→Res)(m:Md)(p:Nat):prS (ts.map np) R m p=prS ts R m p:=by
 cases m with
 |fs=>
  simp only[prS,mkA_np,Bm]
  split
  ·rfl
  ·cases ts[p]?<;>rfl
 |_=>simp only[prS,mkA_np]
theorem pr_np(ts:List Tk):∀ (f:Nat),pr (ts.map np) f=pr ts f
 |0=>by funext m p;cases m<;>rfl
 |f+1=>by
  funext m p
  rw[pr_step,pr_step,pr_np ts f,prS_np]
theorem stN_np(ts:List Tk):stN (ts.map np)=stN ts:=by
 unfold stN;rw[List.takeWhile_map,Bk]
 rfl
theorem readR_np(ts:List Tk)(f:Int):readR (ts.map np) f=readR ts f:=by
 unfold readR cutN readP;rw[←List.map_drop,stN_np,←List.map_take,pr_np];simp only[Bk]
theorem isB_np(ts:List Tk)(p:Nat)(s:List UInt8):isB (ts.map np) p s=isB ts p s:=by
 unfold isB;rw[Bm];cases ts[p]?<;>rfl
theorem wantD_np(ts:List Tk)(s:List UInt8)(p:Nat):wantD (ts.map np) s p=wantD ts s p:=by unfold wantD;rw[isB_np]
theorem wordD_np(ts:List Tk)(p:Nat):wordD (ts.map np) p=wordD ts p:=by
 unfold wordD;rw[Bm];cases ts[p]?<;>rfl
theorem exprD_np(ts:List Tk)(p:Nat):exprD (ts.map np) p=exprD ts p:=by unfold exprD;simp only[readR_np]
theorem kindD_np(ts:List Tk)(p:Nat):kindD (ts.map np) p=kindD ts p:=by
 unfold kindD;rw[Bm];cases ts[p]?<;>rfl
theorem varD_np(ts:List Tk)(p:Nat):varD (ts.map np) p=varD ts p:=by unfold varD;rw[isB_np,wordD_np]
theorem moreD_np{α:Type}(ts:List Tk){I I':Nat→DR α}(hI:∀ p,I' p=I p):∀ (f:Nat) (l:List α) (p:Nat),moreD (ts.map np) I' f l p=moreD ts I f l p
 |0,l,p=>rfl
 |f+1,l,p=>by rw[moreD,moreD];simp only[isB_np,hI,moreD_np ts hI f]
theorem listD_np{α:Type}(ts:List Tk){I I':Nat→DR α}(hI:∀ p,I' p=I p)(p:Nat):listD (ts.map np) I' p=listD ts I p:=by
 unfold listD;simp only[isB_np,wantD_np,hI,moreD_np ts hI,Bk]
theorem argsD_np(ts:List Tk)(p:Nat):argsD (ts.map np) p=argsD ts p:=listD_np ts (exprD_np ts) p
theorem tagD_np(ts:List Tk)(p:Nat):tagD (ts.map np) p=tagD ts p:=by
 unfold tagD;simp only[wordD_np,wantD_np,listD_np ts (kindD_np ts)]
theorem partD_np(ts:List Tk)(p:Nat):partD (ts.map np) p=partD ts p:=by
 unfold partD;simp only[wordD_np,listD_np ts (varD_np ts)]
theorem actD_np(ts:List Tk)(p:Nat):actD (ts.map np) p=actD ts p:=by
 unfold actD;simp only[isB_np,exprD_np,wordD_np,argsD_np,wantD_np]
theorem actsD_np(ts:List Tk):∀ (f:Nat) (l:List Ac) (p:Nat),actsD (ts.map np) f l p=actsD ts f l p
 |0,l,p=>rfl
 |f+1,l,p=>by rw[actsD,actsD];simp only[isB_np,actD_np,wantD_np,actsD_np ts f]
theorem bodyD_np(ts:List Tk)(p:Nat):bodyD (ts.map np) p=bodyD ts p:=by
 unfold bodyD;simp only[wantD_np,actsD_np,Bk]
theorem partsD_np(ts:List Tk):∀ (f:Nat) (l:List Pt) (p:Nat),partsD (ts.map np) f l p=partsD ts f l p
 |0,l,p=>rfl
 |f+1,l,p=>by rw[partsD,partsD];simp only[isB_np,partD_np,partsD_np ts f]
theorem guardD_np(ts:List Tk)(p:Nat):guardD (ts.map np) p=guardD ts p:=by unfold guardD;simp only[isB_np,exprD_np]
theorem chordD_np(ts:List Tk)(p:Nat):chordD (ts.map np) p=chordD ts p:=by
 unfold chordD;simp only[wantD_np,wordD_np,partD_np,partsD_np,guardD_np,bodyD_np,Bk]
theorem chordsD_np(ts:List Tk):∀ (f:Nat) (l:List Ch) (p:Nat),chordsD (ts.map np) f l p=chordsD ts f l p
 |0,l,p=>rfl
 |f+1,l,p=>by rw[chordsD,chordsD];simp only[isB_np,chordD_np,chordsD_np ts f]
theorem kindD2_np(ts:List Tk)(p:Nat):kindD2 (ts.map np) p=kindD2 ts p:=by
 unfold kindD2;simp only[wantD_np,wordD_np,chordsD_np,Bk]
theorem progD_np(ts:List Tk):∀ (f:Nat) (g:Pg) (p:Nat),progD (ts.map np) f g p=progD ts f g p
 |0,g,p=>rfl
 |f+1,g,p=>by rw[progD,progD];simp only[isB_np,tagD_np,kindD2_np,progD_np ts f,Bk]
variable {A B:List Tk}
end Go.Proofs.YtlobiioioicmhaaGreatDoor
