/- A part of the proof. -/
import Derived.Test.YtlobiioioicmhaaGreatDoorDU8
import Derived.KernelRfl
import Derived.Test.YtlobiioioicmhaaGreatDoorProg
set_option linter.all false
set_option maxHeartbeats 8000000
namespace Go.Proofs.YtlobiioioicmhaaGreatDoor
open _root_.Bool renaming not_true→Bv,not_false→Bf
open _root_.List renaming getElem?_eq_some_iff→Bs,getElem?_append_left→Ba,getElem?_append_right→Br,getElem?_set_self→Be,getElem?_set_ne→Bn,length_append→Bp,append_assoc→Bo,getElem?_cons_zero→Bz,getElem?_eq_none→Bq,mem_singleton→Bj,length_cons→BC,length_nil→BD,flatMap_cons→BE
open _root_.Nat renaming le_refl→BL,le_trans→BM,lt_of_lt_of_le→BO
open Go.Proofs.Tryz renaming prog→Tp
open Go Go.Ev
structure Tk where
 kind:Int
 text:List UInt8
 int:Int
 real:Nat
 pos:Int
 size:Int
def Tk.cells(t:Tk):List AV:=[.v (.int .i64 t.kind),.v (.string ⟨t.text.toArray⟩),.v (.int .i64 t.int),.v (.float .f64 t.real),.v (.int .i64 t.pos),.v (.int .i64 t.size)]
def tkCells(l:List Tk):List AV:=l.flatMap Tk.cells
theorem tkCells_length(l:List Tk):(tkCells l).length=l.length * 6:=by
 induction l with
 |nil=>rfl
 |cons t l ih=>unfold tkCells at ih⊢;rw[BE,Bp,ih,BC];simp only[Tk.cells,BC,BD];omega
theorem tkCells_at{l:List Tk}{i k:Nat}{t:Tk}(h:l[i]?=some t)(hk:k<6):(tkCells l)[i * 6+k]?=(Tk.cells t)[k]?:=by
 induction l generalizing i with
 |nil=>cases h
 |cons x l ih=>
  unfold tkCells at ih⊢;rw[BE];cases i with
  |zero=>
   simp only[Bz,Option.some.injEq]at h;subst h;rw[Ba (by simp only[Tk.cells,BC,BD];omega),Nat.zero_mul,Nat.zero_add]
  |succ i=>
   rw[Br (by simp only[Tk.cells,BC,BD];omega)];rw[←ih (by simpa using h)]
   congr 1
   simp only[Tk.cells,BC,BD];omega
def LAt(L:AV)(ts:List Tk):Prop:=(L=.v (.slice none 0 0)∧ts=[])∨∃ b m cs,L=.sl b ts.length m cs∧tkCells ts<+:cs
theorem LAt.cell{b:Bool}{ts:List Tk}{cs:List AV}(h:tkCells ts<+:cs){i k:Nat}{t:Tk}(hi:ts[i]?=some t)(hk:k<6):cs[i * 6+k]?=(Tk.cells t)[k]?:=by
 obtain⟨r,rfl⟩:=h;have hl:i<ts.length:=(Bs.1 hi).1;rw[Ba (by rw[tkCells_length];omega)];exact tkCells_at hi hk
structure Nd where
 k:Int
 a:Int
 b:Int
 nm:List UInt8
 vk:Int
 vi:Int
 vr:Nat
 vt:List UInt8
def Nd.cells(n:Nd):List AV:=[.v (.int .i64 n.k),.v (.int .i64 n.a),.v (.int .i64 n.b),.v (.string ⟨n.nm.toArray⟩),.v (.int .i64 n.vk),.v (.int .i64 n.vi),.v (.float .f64 n.vr),.v (.complex .f64 0 0),.v (.string ⟨n.vt.toArray⟩)]
def ndCells(l:List Nd):List AV:=l.flatMap Nd.cells
theorem ndCells_length(l:List Nd):(ndCells l).length=l.length * 9:=by
 induction l with
 |nil=>rfl
 |cons t l ih=>unfold ndCells at ih⊢;rw[BE,Bp,ih,BC];simp only[Nd.cells,BC,BD];omega
theorem ndCells_app(l m:List Nd):ndCells (l++m)=ndCells l++ndCells m:=List.flatMap_append
theorem ndCells_take(l:List Nd):(ndCells l).take (l.length * 9)=ndCells l:=by rw[←ndCells_length,List.take_length]
inductive Tr where
 |lf (k:Int) (nm:List UInt8) (vk vi:Int) (vr:Nat) (vt:List UInt8)
 |un (k:Int) (a:Tr)
 |bi (k:Int) (a b:Tr)
def Tr.size:Tr→Nat
 |.lf .. =>1
 |.un _ a=>a.size+1
 |.bi _ a b=>a.size+b.size+1
def Tr.deep:Tr→Nat
 |.lf .. =>1
 |.un _ a=>a.deep+1
 |.bi _ a b=>max a.deep b.deep+1
def lay:Tr→Nat→List Nd
 |.lf k nm vk vi vr vt,_=>[⟨k,0,0,nm,vk,vi,vr,vt⟩]
 |.un k a,n=>lay a n++[⟨k,((n+a.size-1:Nat):Int),0,[],0,0,0,[]⟩]
 |.bi k a b,n=>lay a n++lay b (n+a.size)++[⟨k,((n+a.size-1:Nat):Int),((n+a.size+b.size-1:Nat):Int),[],0,0,0,[]⟩]
theorem size_pos(t:Tr):1≤t.size:=by cases t<;>simp only[Tr.size]<;>omega
theorem lay_length(t:Tr):∀ n,(lay t n).length=t.size:=by
 induction t with
 |lf=>intro n;rfl
 |un k a ih=>intro n;simp[lay,Tr.size,ih]
 |bi k a b iha ihb=>intro n;simp[lay,Tr.size,iha,ihb];omega
def mkA(ts:List Tk)(i:Nat):List UInt8:=match ts[i]? with
 |some t=>if t.kind=5 then t.text else []
 |none=>[]
def opK(s:List UInt8):Int:=
 if s=[124,124]then 17 else if s=[38,38]then 16 else if s=[61,61]then 10 else if s=[33,61]then 11
 else if s=[60]then 12 else if s=[60,61]then 13 else if s=[62]then 14 else if s=[62,61]then 15
 else if s=[43]then 5 else if s=[45]then 6 else if s=[42]then 7 else if s=[47]then 8 else if s=[37]then 9 else 0
def levK(k:Int):Int:=
 if k=17 then 1 else if k=16 then 2 else if k=10∨k=11∨k=12∨k=13∨k=14∨k=15 then 3 else if k=5∨k=6 then 4 else if k=7∨k=8∨k=9 then 5 else if k=3∨k=4 then 6 else 7
def wordK(s:List UInt8):Int:=
 if s=[114,101]then 18 else if s=[105,109]then 19 else if s=[115,105,122,101,50]then 20 else if s=[99,111,109,112]then 21
 else if s=[114,101,97,108]then 22 else if s=[108,101,110]then 23 else if s=[97,116]then 24 else if s=[99,97,116]then 25 else if s=[115,116,114]then 26 else 0
def kidsK(k:Int):Int:=
 if k=1∨k=2 then 0 else if k=3∨k=4∨k=18∨k=19∨k=20∨k=22∨k=23∨k=26 then 1 else if k<5∨26<k then -1 else 2
inductive Res where
 |ok (t:Tr) (p:Nat)
 |bad (p:Nat)
inductive Md where
 |bin (n:Nat)
 |lp (n:Nat) (a:Tr)
 |un
 |fs
 |nm (s:List UInt8)
def trueB:List UInt8:=[116,114,117,101]
def falseB:List UInt8:=[102,97,108,115,101]
def pr(ts:List Tk):Nat→Md→Nat→Res
 |0,_,p=>.bad p
 |f+1,.bin n,p=>if 5<n then pr ts f .un p else match pr ts f (.bin (n+1)) p with
  |.bad q=>.bad q
  |.ok a q=>pr ts f (.lp n a) q
 |f+1,.lp n a,p=>if opK (mkA ts p)=0∨levK (opK (mkA ts p))≠n then .ok a p else match pr ts f (.bin (n+1)) (p+1)with
  |.bad q=>.bad q
  |.ok b q=>if n=3 then .ok (.bi (opK (mkA ts p)) a b) q else pr ts f (.lp n (.bi (opK (mkA ts p)) a b)) q
 |f+1,.un,p=>if mkA ts p=[45]∨mkA ts p=[33]then match pr ts f .un (p+1)with
   |.bad q=>.bad q
   |.ok a q=>.ok (.un (if mkA ts p=[45]then 3 else 4) a) q
  else pr ts f .fs p
 |f+1,.fs,p=>if mkA ts p=[40]then match pr ts f (.bin 1) (p+1)with
   |.bad q=>.bad q
   |.ok a q=>if mkA ts q=[41]then .ok a (q+1)else .bad q
  else match ts[p]? with
  |none=>.bad p
  |some t=>if t.kind=5 then .bad p else if t.kind=2 then .ok (.lf 1 [] 1 t.int 0 []) (p+1)else if t.kind=3 then .ok (.lf 1 [] 2 0 t.real []) (p+1)
   else if t.kind=4 then .ok (.lf 1 [] 4 0 0 t.text) (p+1)else pr ts f (.nm t.text) (p+1)
 |f+1,.nm s,p=>if s=trueB then .ok (.lf 1 [] 5 1 0 []) p else if s=falseB then .ok (.lf 1 [] 5 0 0 []) p else if wordK s=0 then .ok (.lf 2 s 0 0 0 []) p
  else if mkA ts p≠[40]then .bad p else match pr ts f (.bin 1) (p+1)with
   |.bad q=>.bad q
   |.ok a q=>if kidsK (wordK s)=2 then (if mkA ts q≠[44]then .bad q else match pr ts f (.bin 1) (q+1)with
     |.bad r=>.bad r
     |.ok b r=>if mkA ts r=[41]then .ok (.bi (wordK s) a b) (r+1)else .bad r)
    else if mkA ts q=[41]then .ok (.un (wordK s) a) (q+1)else .bad q
def Md.need(ts:List Tk)(p:Nat):Md→Nat
 |.bin n=>16 * (ts.length-p)+(12-n)
 |.lp _ _=>16 * (ts.length-p)+2
 |.un=>16 * (ts.length-p)+4
 |.fs=>16 * (ts.length-p)+3
 |.nm _=>16 * (ts.length-p)+2
def Md.adv(p:Nat):Md→Tr→Nat→Prop
 |.lp _ a,t,q=>p≤q∧t.size+p≤q+a.size
 |.nm _,t,q=>p≤q∧t.size+p≤q+1
 |_,t,q=>p<q∧t.size+p≤q
theorem mkA_lt{ts:List Tk}{p:Nat}(h:mkA ts p≠[]):p<ts.length:=by
 unfold mkA at h;cases e:ts[p]? with
 |none=>rw[e]at h;exact absurd rfl h
 |some t=>exact (Bs.1 e).1
theorem mkA_eq{ts:List Tk}{p:Nat}{c:UInt8}{s:List UInt8}(h:mkA ts p=c::s):p<ts.length:=mkA_lt (by rw[h];exact List.cons_ne_nil _ _)
theorem opK_lt{ts:List Tk}{p:Nat}(h:opK (mkA ts p)≠0):p<ts.length:=mkA_lt fun e=>h (by rw[e];rfl)
theorem pr_adv(ts:List Tk):∀ (f:Nat) (m:Md) (p:Nat) (t:Tr) (q:Nat),p≤ts.length→pr ts f m p=.ok t q→m.adv p t q∧q≤ts.length:=by
 intro f
 induction f with
 |zero=>intro m p t q _ h;cases m<;>cases h
 |succ f ih=>
  intro m p t q hp h;cases m with
  |bin n=>
   rw[pr]at h
   split at h
   ·have k:=ih .un _ _ _ hp h;exact k
   ·split at h
    ·cases h
    ·rename_i a q' e;obtain⟨⟨h1,h2⟩,h3⟩:=ih _ _ _ _ hp e;obtain⟨⟨g1,g2⟩,g3⟩:=ih _ _ _ _ h3 h;exact⟨⟨by omega,by omega⟩,g3⟩
  |lp n a=>
   rw[pr]at h
   split at h
   ·cases h;exact⟨⟨BL _,by omega⟩,hp⟩
   ·rename_i hk;have hlt:=opK_lt (fun e=>hk (.inl e))
    split at h
    ·cases h
    ·rename_i b q' e;obtain⟨⟨h1,h2⟩,h3⟩:=ih _ _ _ _ (by omega) e
     split at h
     ·cases h;refine⟨⟨by omega,?_⟩,h3⟩;simp only[Tr.size];omega
     ·obtain⟨⟨g1,g2⟩,g3⟩:=ih _ _ _ _ h3 h;simp only[Tr.size]at g2;exact⟨⟨by omega,by omega⟩,g3⟩
  |un=>
   rw[pr]at h
   split at h
   ·rename_i hm;have hlt:p<ts.length:=hm.elim mkA_eq mkA_eq
    split at h
    ·cases h
    ·rename_i a q' e;obtain⟨⟨h1,h2⟩,h3⟩:=ih _ _ _ _ (by omega) e;cases h;refine⟨⟨by omega,?_⟩,h3⟩;simp only[Tr.size];omega
   ·have k:=ih .fs _ _ _ hp h;exact k
  |fs=>
   rw[pr]at h
   split at h
   ·rename_i hm;have hlt:p<ts.length:=mkA_eq hm
    split at h
    ·cases h
    ·rename_i a q' e;obtain⟨⟨h1,h2⟩,h3⟩:=ih _ _ _ _ (by omega) e
     split at h
     ·rename_i hm2;have hlt2:q'<ts.length:=mkA_eq hm2;cases h;exact⟨⟨by omega,by omega⟩,by omega⟩
     ·cases h
   ·split at h
    ·cases h
    ·rename_i t' e;have hlt:p<ts.length:=(Bs.1 e).1
     split at h
     ·cases h
     ·split at h
      ·cases h;refine⟨⟨by omega,?_⟩,by omega⟩;simp only[Tr.size];omega
      ·split at h
       ·cases h;refine⟨⟨by omega,?_⟩,by omega⟩;simp only[Tr.size];omega
       ·split at h
        ·cases h;refine⟨⟨by omega,?_⟩,by omega⟩;simp only[Tr.size];omega
        ·obtain⟨⟨g1,g2⟩,g3⟩:=ih _ _ _ _ (by omega) h;exact⟨⟨by omega,by omega⟩,g3⟩
  |nm s=>
   rw[pr]at h
   split at h
   ·cases h;refine⟨⟨by omega,?_⟩,hp⟩;simp only[Tr.size];omega
   split at h
   ·cases h;refine⟨⟨by omega,?_⟩,hp⟩;simp only[Tr.size];omega
   split at h
   ·cases h;refine⟨⟨by omega,?_⟩,hp⟩;simp only[Tr.size];omega
   split at h
   ·cases h
   rename_i hm;have hlt:p<ts.length:=mkA_eq (Decidable.not_not.1 hm)
   split at h
   ·cases h
   rename_i a q' e;obtain⟨⟨h1,h2⟩,h3⟩:=ih _ _ _ _ (by omega) e
   split at h
   ·split at h
    ·cases h
    rename_i hm2;have hlt2:q'<ts.length:=mkA_eq (Decidable.not_not.1 hm2)
    split at h
    ·cases h
    rename_i b r e2;obtain⟨⟨g1,g2⟩,g3⟩:=ih _ _ _ _ (by omega) e2
    split at h
    ·rename_i hm3;have hlt3:r<ts.length:=mkA_eq hm3;cases h;refine⟨⟨by omega,?_⟩,by omega⟩;simp only[Tr.size];omega
    ·cases h
   ·split at h
    ·rename_i hm3;have hlt3:q'<ts.length:=mkA_eq hm3;cases h;refine⟨⟨by omega,?_⟩,by omega⟩;simp only[Tr.size];omega
    ·cases h
def Fr(S:Nat→Prop)(h h':List ABlk):Prop:=h.length≤h'.length∧∀ k,k<h.length→¬S k→h'[k]?=h[k]?
theorem Fr.refl(S:Nat→Prop)(h:List ABlk):Fr S h h:=⟨BL _,fun _ _ _=>rfl⟩
theorem Fr.trans{S S1:Nat→Prop}{h h1 h2:List ABlk}(a:Fr S h h1)(b:Fr S1 h1 h2)(hs:∀ k,S1 k→S k∨h.length≤k):Fr S h h2:=
 ⟨BM a.1 b.1,fun k hk hn=>(b.2 k (BO hk a.1) fun hk1=>(hs k hk1).elim hn fun hle=>by omega).trans (a.2 k hk hn)⟩
theorem Fr.set{S:Nat→Prop}{h:List ABlk}{i:Nat}(b:ABlk)(hi:S i):Fr S h (h.set i b):=
 ⟨by simp,fun k hk hn=>Bn fun e=>by subst e;exact hn hi⟩
theorem Fr.app{S:Nat→Prop}(h l:List ABlk):Fr S h (h++l):=
 ⟨by simp,fun k hk _=>Ba hk⟩
theorem Fr.mono{S S1:Nat→Prop}{h h1:List ABlk}(a:Fr S h h1)(hs:∀ k,S k→S1 k):Fr S1 h h1:=⟨a.1,fun k hk hn=>a.2 k hk fun e=>hn (hs k e)⟩
theorem Fr.at{S:Nat→Prop}{h h1:List ABlk}(a:Fr S h h1){k:Nat}{b:ABlk}(hk:h[k]?=some b)(hn:¬S k):h1[k]?=some b:=
 (a.2 k (Bs.1 hk).1 hn).trans hk
def nbk(N:AV)(k:Nat):Prop:=match N with
 |.own j _ _=>k=j
 |_=>False
def NsAt(h:List ABlk)(N:AV)(ns:List Nd):Prop:=(N=.v (.slice none 0 0)∧ns=[])∨∃ j ver,N=.own j ver ns.length∧h[j]?=some ⟨ver,115,ndCells ns⟩
theorem NsAt.fr{S:Nat→Prop}{h h1:List ABlk}{N:AV}{ns:List Nd}(a:NsAt h N ns)(f:Fr S h h1)(hn:∀ k,nbk N k→¬S k):NsAt h1 N ns:=by
 rcases a with a|⟨j,ver,rfl,hj⟩
 ·exact .inl a
 ·exact .inr ⟨j,ver,rfl,f.at hj (hn j rfl)⟩
def RS(h:List ABlk)(i:Nat)(L:AV)(p:Nat)(N:AV)(ns:List Nd):Prop:=h[i]?=some ⟨0,104,[L,.v (.int .i64 p),N]⟩∧NsAt h N ns
theorem RS.lt{h:List ABlk}{i:Nat}{L:AV}{p:Nat}{N:AV}{ns:List Nd}(a:RS h i L p N ns):i<h.length:=(Bs.1 a.1).1
theorem RS.ne{h:List ABlk}{i:Nat}{L:AV}{p:Nat}{N:AV}{ns:List Nd}(a:RS h i L p N ns){k:Nat}(hk:nbk N k):k≠i:=by
 intro e;subst e
 rcases a.2 with⟨rfl,_⟩|⟨j,ver,rfl,hj⟩
 ·exact hk
 ·have hk':k=j:=hk;subst hk';rw[a.1]at hj;cases hj
theorem RS.move{h:List ABlk}{i:Nat}{L:AV}{p:Nat}{N:AV}{ns:List Nd}(a:RS h i L p N ns)(q:Nat):RS (h.set i ⟨0,104,[L,.v (.int .i64 q),N]⟩) i L q N ns:=
 ⟨Be a.lt,a.2.fr (S:=fun k=>k=i) (Fr.set _ rfl) fun k hk=>a.ne hk⟩
def RP(i:Nat)(N:AV)(k:Nat):Prop:=k=i∨nbk N k
def faultA(q:Nat):AV:=.ifc 185 (.agg [.v (.int .i64 q)])
def ResP(L:AV)(i:Nat)(N:AV)(h:List ABlk)(ns:List Nd)(r:Res)(o:Out)(h':List ABlk):Prop:=
 Fr (RP i N) h h'∧match r with
 |.ok t q=>o=.ret (.v (.int .i64 ((ns.length+t.size-1:Nat):Int)))∧∃ N',RS h' i L q N' (ns++lay t ns.length)∧∀ k,nbk N' k→nbk N k∨h.length≤k
 |.bad q=>o=.pan (faultA q)
set_option maxRecDepth 20000
variable {γ:List (Nat×AV)}
theorem tyX:aggT Tp 115=some true∧
  aggT Tp 2=some false∧
  aggT Tp 22=some false∧
  aggT Tp 3=some false∧
  aggT Tp 39=some false∧
  aggT Tp 48=some false∧
  aggT Tp 53=some true∧
  aggT Tp 9=some false∧
  appT Tp 39 39=some (115,9,96)∧
  elemT Tp 39=some 115∧
  elemT Tp 48=some 53∧
  fieldT Tp 104 0=some (0,48)∧
  fieldT Tp 104 1=some (1,3)∧
  fieldT Tp 104 2=some (2,39)∧
  fieldT Tp 115 2=some (2,3)∧
  fieldT Tp 185 0=some (0,3)∧
  fieldT Tp 53 0=some (0,3)∧
  fieldT Tp 53 1=some (1,9)∧
  fieldT Tp 53 2=some (2,2)∧
  fieldT Tp 53 3=some (3,22)∧
  ifcT Tp 185=some false∧
  ifcT Tp 20=some true∧
  mkT Tp 39=some (115,9,[.v (.int .i64 0),.v (.int .i64 0),.v (.int .i64 0),.v (.string ⟨#[]⟩),.v (.int .i64 0),.v (.int .i64 0),.v (.float .f64 0),.v (.complex .f64 0 0),.v (.string ⟨#[]⟩)])∧
  placesT Tp 115=some [(0,1),(1,1),(2,1),(3,1),(4,5)]∧
  placesT Tp 185=some [(0,1)]∧
  placesT Tp 25=some [(0,1),(1,1),(2,1),(3,1),(4,1)]∧
  sizeT Tp 115=some 9∧
  sizeT Tp 185=some 1∧
  sizeT Tp 2=some 1∧
  sizeT Tp 22=some 1∧
  sizeT Tp 3=some 1∧
  sizeT Tp 39=some 1∧
  sizeT Tp 48=some 1∧
  sizeT Tp 53=some 6∧
  sizeT Tp 9=some 1∧
  zcT Tp 115=some [.v (.int .i64 0),.v (.int .i64 0),.v (.int .i64 0),.v (.string ⟨#[]⟩),.v (.int .i64 0),.v (.int .i64 0),.v (.float .f64 0),.v (.complex .f64 0 0),.v (.string ⟨#[]⟩)]∧
  zcT Tp 185=some [.v (.int .i64 0)]∧
  zcT Tp 25=some [.v (.int .i64 0),.v (.int .i64 0),.v (.float .f64 0),.v (.complex .f64 0 0),.v (.string ⟨#[]⟩)]∧
  zcT Tp 3=some [.v (.int .i64 0)]∧
  zcT Tp 53=some [.v (.int .i64 0),.v (.string ⟨#[]⟩),.v (.int .i64 0),.v (.float .f64 0),.v (.int .i64 0),.v (.int .i64 0)]:=
 (by and_intros<;>kernel_rfl)
theorem c186:bodyT Tp 186:=⟨_,Tryz.func186,by kernel_rfl,by kernel_rfl⟩
theorem c188:bodyT Tp 188:=⟨_,Tryz.func188,by kernel_rfl,by kernel_rfl⟩
theorem c282:bodyT Tp 282:=⟨_,Tryz.func282,by kernel_rfl,by kernel_rfl⟩
theorem c185:bodyT Tp 185:=⟨_,Tryz.func185,by kernel_rfl,by kernel_rfl⟩
theorem c187:bodyT Tp 187:=⟨_,Tryz.func187,by kernel_rfl,by kernel_rfl⟩
theorem c299:bodyT Tp 299:=⟨_,Tryz.func299,by kernel_rfl,by kernel_rfl⟩
theorem c115:bodyT Tp 115:=⟨_,Tryz.func115,by kernel_rfl,by kernel_rfl⟩
theorem mkA_ge{ts:List Tk}{p:Nat}(h:ts.length≤p):mkA ts p=[]:=by
 unfold mkA;rw[Bq h]
theorem LAt.at{ts:List Tk}{cs:List AV}(h:tkCells ts<+:cs){p:Nat}{t:Tk}(hp:ts[p]?=some t):
  cs[p * 6]?=some (.v (.int .i64 t.kind))∧cs[p * 6+1]?=some (.v (.string ⟨t.text.toArray⟩))∧cs[p * 6+2]?=some (.v (.int .i64 t.int))∧cs[p * 6+3]?=some (.v (.float .f64 t.real))∧
   cs[p * 6+4]?=some (.v (.int .i64 t.pos))∧cs[p * 6+5]?=some (.v (.int .i64 t.size)):=
 ⟨LAt.cell (b:=false) h hp (k:=0) (by decide),LAt.cell (b:=false) h hp (k:=1) (by decide),LAt.cell (b:=false) h hp (k:=2) (by decide),LAt.cell (b:=false) h hp (k:=3) (by decide),LAt.cell (b:=false) h hp (k:=4) (by decide),LAt.cell (b:=false) h hp (k:=5) (by decide)⟩
theorem mark_ev{ts:List Tk}{h:List ABlk}{i p:Nat}{L N:AV}{ns:List Nd}(hL:LAt L ts)(hr:RS h i L p N ns):
  EvM Tp γ 186 [.ptr i 0 0] h fun o h'=>o=.ret (.v (.string ⟨(mkA ts p).toArray⟩))∧h'=h:=by
 have hi:=hr.1;refine EvM.of Tryz.func186 rfl ?_
 rcases hL with⟨rfl,rfl⟩|⟨b,m,cs,rfl,hcs⟩
 ·have e0:mkA [] p=[]:=rfl;have d1:decide ((p:Int)<0)=false:=decide_eq_false (by omega);rw[e0];simp only[Tryz.f186,evE,Nat.reduceAdd,Nat.reduceSub,Nat.reduceLT]
  (repeat' (first|(with_reducible refine aI ?_ ?_)|(first|(first|refine gF ?_ ?_|refine gT ?_ ?_|refine cI ?_ ?_|refine pI ?_ ?_)<;>intro h|(refine dI ?_;have h:=trivial))<;>simp only[h,hi,d1,evE,tyX,Bv,Bf,Nat.reduceAdd,Nat.reduceSub,Nat.reduceMul,Nat.reduceLT,Nat.reduceLeDiff,Nat.reduceEqDiff,reduceCtorEq,List.reduceReplicate,Int.reduceToNat,Int.reduceLE,Int.reduceLT]))
 ·by_cases hlt:p<ts.length
  ·have d1:decide (p<ts.length)=true:=decide_eq_true (by omega);have ht:ts[p]?=some ts[p]:=by simp[hlt]
   generalize ts[p]=t at ht;obtain⟨k0,k1,_⟩:=LAt.at hcs ht
   by_cases hk:t.kind=5
   ·have e0:mkA ts p=t.text:=by unfold mkA;rw[ht];simp[hk]
    have d2:(t.kind==5)=true:=by simpa using hk
    rw[e0];simp only[Tryz.f186,evE,Nat.reduceAdd,Nat.reduceSub,Nat.reduceLT]
    (repeat' (first|(with_reducible refine aI ?_ ?_)|(first|(first|refine gF ?_ ?_|refine gT ?_ ?_|refine cI ?_ ?_|refine pI ?_ ?_)<;>intro h|(refine dI ?_;have h:=trivial))<;>simp only[h,hi,d1,d2,k0,k1,evE,tyX,Bv,Bf,Nat.reduceAdd,Nat.reduceSub,Nat.reduceMul,Nat.reduceLT,Nat.reduceLeDiff,Nat.reduceEqDiff,reduceCtorEq,List.reduceReplicate,Int.reduceToNat,Int.reduceLE,Int.reduceLT]))
    all_goals exact hlt
   ·have e0:mkA ts p=[]:=by unfold mkA;rw[ht];simp[hk]
    have d2:(t.kind==5)=false:=by simpa using hk
    rw[e0];simp only[Tryz.f186,evE,Nat.reduceAdd,Nat.reduceSub,Nat.reduceLT]
    (repeat' (first|(with_reducible refine aI ?_ ?_)|(first|(first|refine gF ?_ ?_|refine gT ?_ ?_|refine cI ?_ ?_|refine pI ?_ ?_)<;>intro h|(refine dI ?_;have h:=trivial))<;>simp only[h,hi,d1,d2,k0,k1,evE,tyX,Bv,Bf,Nat.reduceAdd,Nat.reduceSub,Nat.reduceMul,Nat.reduceLT,Nat.reduceLeDiff,Nat.reduceEqDiff,reduceCtorEq,List.reduceReplicate,Int.reduceToNat,Int.reduceLE,Int.reduceLT]))
    all_goals exact hlt
  ·have d1:decide (p<ts.length)=false:=decide_eq_false (by omega);rw[mkA_ge (by omega)];simp only[Tryz.f186,evE,Nat.reduceAdd,Nat.reduceSub,Nat.reduceLT]
   (repeat' (first|(with_reducible refine aI ?_ ?_)|(first|(first|refine gF ?_ ?_|refine gT ?_ ?_|refine cI ?_ ?_|refine pI ?_ ?_)<;>intro h|(refine dI ?_;have h:=trivial))<;>simp only[h,hi,d1,evE,tyX,Bv,Bf,Nat.reduceAdd,Nat.reduceSub,Nat.reduceMul,Nat.reduceLT,Nat.reduceLeDiff,Nat.reduceEqDiff,reduceCtorEq,List.reduceReplicate,Int.reduceToNat,Int.reduceLE,Int.reduceLT]))
def TakeP(ts:List Tk)(L:AV)(i p:Nat)(N:AV)(s:List UInt8)(h:List ABlk)(o:Out)(h':List ABlk):Prop:=
 if mkA ts p=s then o=.ret (.tup [])∧h'=h.set i ⟨0,104,[L,.v (.int .i64 ((p+1:Nat):Int)),N]⟩else o=.pan (faultA p)∧h'=h
theorem take_ev{ts:List Tk}{h:List ABlk}{i p:Nat}{L N:AV}{ns:List Nd}(hL:LAt L ts)(hr:RS h i L p N ns)(hb:p<4611686018427387904)(s:List UInt8):
  EvM Tp γ 282 [.ptr i 0 0,.v (.string ⟨s.toArray⟩)] h (TakeP ts L i p N s h):=by
 have hi:=hr.1;have w1:IntKind.i64.wrap ((p:Int)+1)=((p+1:Nat):Int):=(i64w (by omega) (by omega)).trans (by omega);refine EvM.of Tryz.func282 rfl ?_;simp only[Tryz.f282,evE,Nat.reduceAdd,Nat.reduceSub,Nat.reduceLT,Nat.reduceEqDiff,reduceCtorEq];refine CallE.intro c186 _ (mark_ev hL hr) (fun r h' hh=>?_) (fun v h' hh=>by cases hh.1);obtain⟨e,rfl⟩:=hh;cases e
 by_cases hm:mkA ts p=s
 ·have d1:(mkA ts p==s)=true:=by simpa using hm
  simp only[hi,d1,w1,evE,tyX,Bv,Nat.reduceAdd,Nat.reduceLT,Nat.reduceLeDiff,Nat.reduceEqDiff,reduceCtorEq]
  (repeat' (first|(with_reducible refine aI ?_ ?_)|((first|refine GuardK.intro_f (fun h=>?_) (fun h=>?_)|refine GuardK.intro_t (fun h=>?_) (fun h=>?_)|refine CondK.intro (fun h=>?_) (fun h=>?_)|refine PickK.intro (fun h=>?_) (fun h=>?_))<;>simp only[h,hi,d1,w1,evE,tyX,Bv,Bf,Nat.reduceAdd,Nat.reduceSub,Nat.reduceMul,Nat.reduceLT,Nat.reduceLeDiff,Nat.reduceEqDiff,reduceCtorEq,List.reduceReplicate,Int.reduceToNat,Int.reduceLE,Int.reduceLT])|(refine dI ?_;simp only[hi,d1,w1,evE,tyX,Bv,Bf,Nat.reduceAdd,Nat.reduceSub,Nat.reduceMul,Nat.reduceLT,Nat.reduceLeDiff,Nat.reduceEqDiff,reduceCtorEq,List.reduceReplicate,Int.reduceToNat,Int.reduceLE,Int.reduceLT])))
  unfold TakeP;rw[if_pos hm];exact⟨rfl,rfl⟩
 ·have d1:(mkA ts p==s)=false:=by simpa using hm
  simp only[hi,d1,evE,tyX,Bf,Nat.reduceLT,Nat.reduceLeDiff,Nat.reduceEqDiff,reduceCtorEq]
  (repeat' (first|(with_reducible refine aI ?_ ?_)|((first|refine GuardK.intro_f (fun h=>?_) (fun h=>?_)|refine GuardK.intro_t (fun h=>?_) (fun h=>?_)|refine CondK.intro (fun h=>?_) (fun h=>?_)|refine PickK.intro (fun h=>?_) (fun h=>?_))<;>simp only[h,hi,d1,w1,evE,tyX,Bv,Bf,Nat.reduceAdd,Nat.reduceSub,Nat.reduceMul,Nat.reduceLT,Nat.reduceLeDiff,Nat.reduceEqDiff,reduceCtorEq,List.reduceReplicate,Int.reduceToNat,Int.reduceLE,Int.reduceLT])|(refine dI ?_;simp only[hi,d1,w1,evE,tyX,Bv,Bf,Nat.reduceAdd,Nat.reduceSub,Nat.reduceMul,Nat.reduceLT,Nat.reduceLeDiff,Nat.reduceEqDiff,reduceCtorEq,List.reduceReplicate,Int.reduceToNat,Int.reduceLE,Int.reduceLT])))
  unfold TakeP;rw[if_neg hm];exact⟨rfl,rfl⟩
def PutP(L:AV)(i p:Nat)(N:AV)(ns:List Nd)(nd:Nd)(h:List ABlk)(o:Out)(h':List ABlk):Prop:=
 o=.ret (.v (.int .i64 (ns.length:Int)))∧Fr (RP i N) h h'∧∃ N',RS h' i L p N' (ns++[nd])∧∀ k,nbk N' k→nbk N k∨h.length≤k
theorem put_ev{h:List ABlk}{i p:Nat}{L N:AV}{ns:List Nd}(hr:RS h i L p N ns)(nd:Nd)(hb:(ns.length+1) * 96≤140737488355328):
  EvM Tp γ 188 [.ptr i 0 0,.agg nd.cells] h (PutP L i p N ns nd h):=by
 obtain⟨hi,hn⟩:=hr;have hlt:i<h.length:=(Bs.1 hi).1;have g1:∀ l,(h++l)[i]?=some ⟨0,104,[L,.v (.int .i64 p),N]⟩:=fun l=>(Ba hlt).trans hi
 have g2:∀ (x:ABlk) l,(h++x::l)[h.length]?=some x:=fun x l=>by simp
 have g3:∀ (x y:ABlk) l,(h++x::y::l)[h.length+1]?=some y:=fun x y l=>by simp
 have g4:∀ l b,((h++l).set i b)[i]?=some b:=fun l b=>Be (by simp;omega)
 have g6:∀ x y z l b,((h++x::y::z::l).set i b)[h.length+2]?=some z:=fun x y z l b=>by rw[Bn (by omega)];simp
 have g5:∀ l j x b,(((h++l).set j x).set i b)[i]?=some b:=fun l j x b=>Be (by simp;omega)
 obtain⟨k,a,b,nm,vk,vi,vr,vt⟩:=nd;refine EvM.of Tryz.func188 rfl ?_
 rcases hn with⟨rfl,rfl⟩|⟨j,ver,rfl,hj⟩
 ·simp only[Tryz.f188,Nd.cells,evE,Nat.reduceAdd,Nat.reduceSub,Nat.reduceLT,reduceCtorEq]
  (repeat' (first|(with_reducible refine aI ?_ ?_)|((first|refine GuardK.intro_f (fun h=>?_) (fun h=>?_)|refine GuardK.intro_t (fun h=>?_) (fun h=>?_)|refine CondK.intro (fun h=>?_) (fun h=>?_)|refine PickK.intro (fun h=>?_) (fun h=>?_))<;>simp only[h,hi,g1,g2,g3,g4,g6,Bo,evE,tyX,Bv,Bf,Nat.reduceAdd,Nat.reduceSub,Nat.reduceMul,Nat.reduceLT,Nat.reduceLeDiff,Nat.reduceEqDiff,reduceCtorEq,List.reduceReplicate,Int.reduceToNat,Int.reduceLE,Int.reduceLT])|(refine dX ?_;simp only[g1,g2,g3,g4,g6,Bo,evE,tyX,Nat.reduceAdd,Nat.reduceLT,Nat.reduceLeDiff,Nat.reduceEqDiff,reduceCtorEq,List.reduceReplicate])))
  refine⟨by rw[i64w (by decide) (by decide)];rfl,Fr.trans (Fr.app h _) (Fr.set (S:=RP i (.v (.slice none 0 0))) _ (.inl rfl)) (fun k hk=>.inl hk),_,⟨g4 _ _,.inr ⟨_,_,rfl,g6 _ _ _ _ _⟩⟩,fun k hk=>.inr (by have:k=h.length+2:=hk;omega)⟩
 ·have hjl:j<h.length:=(Bs.1 hj).1;have hji:j≠i:=fun e=>by subst e;rw[hi]at hj;cases hj
  have q1:∀ l,(h++l)[j]?=some ⟨ver,115,ndCells ns⟩:=fun l=>(Ba hjl).trans hj
  have q2:∀ l x,((h++l).set j x)[i]?=some ⟨0,104,[L,.v (.int .i64 p),.own j ver ns.length]⟩:=fun l x=>(Bn hji).trans (g1 l)
  have q3:∀ l x b,(((h++l).set j x).set i b)[j]?=some x:=fun l x b=>(Bn hji.symm).trans (Be (by simp;omega))
  have q4:=ndCells_take ns;have q5:=ndCells_length ns;have q6:ns.length * 9≤(ndCells ns).length:=by omega
  simp only[Tryz.f188,Nd.cells,evE,Nat.reduceAdd,Nat.reduceSub,Nat.reduceLT,reduceCtorEq]
  (repeat' (first|(with_reducible refine aI ?_ ?_)|((first|refine GuardK.intro_f (fun h=>?_) (fun h=>?_)|refine GuardK.intro_t (fun h=>?_) (fun h=>?_)|refine CondK.intro (fun h=>?_) (fun h=>?_)|refine PickK.intro (fun h=>?_) (fun h=>?_))<;>simp only[h,hi,g1,g2,g3,g4,g5,q1,q2,q3,q4,q5,q6,Bo,evE,tyX,Bv,Bf,Nat.reduceAdd,Nat.reduceSub,Nat.reduceMul,Nat.reduceLT,Nat.reduceLeDiff,Nat.reduceEqDiff,reduceCtorEq,List.reduceReplicate,Int.reduceToNat,Int.reduceLE,Int.reduceLT])|(refine dX ?_;simp only[g1,g2,g3,g5,q1,q2,q3,q4,q5,Bo,evE,tyX,Nat.reduceAdd,Nat.reduceLT,Nat.reduceLeDiff,Nat.reduceEqDiff,reduceCtorEq,List.reduceReplicate])))
  ·omega
  ·exact hb
  ·have e:IntKind.i64.wrap (((ns.length+1:Nat):Int)-1)=(ns.length:Int):=(i64w (by omega) (by omega)).trans (by omega);refine⟨by rw[e],Fr.trans (Fr.trans (Fr.app h _) (Fr.set (S:=RP i (.own j ver ns.length)) _ (.inr rfl)) (fun k hk=>.inl hk)) (Fr.set (S:=RP i (.own j ver ns.length)) _ (.inl rfl)) (fun k hk=>.inl hk),.own j (ver+1) (ns.length+1),⟨g5 _ _ _ _,.inr ⟨j,ver+1,by rw[Bp];rfl,?_⟩⟩,fun k hk=>.inl hk⟩;rw[q3,ndCells_app];rfl
theorem operator_ev(s:List UInt8):Ev Tp γ 185 [.v (.string ⟨s.toArray⟩)] (.v (.int .i64 (opK s))):=by
 refine Ev.of Tryz.func185 rfl ?_;unfold opK;simp only[←beq_iff_eq (α:=List UInt8)];simp only[Tryz.f185,evE,Nat.reduceAdd,Nat.reduceSub,Nat.reduceLT,Nat.reduceEqDiff,reduceCtorEq]
 (repeat' (first|(with_reducible refine aI ?_ ?_)|(first|(first|refine gF ?_ ?_|refine gT ?_ ?_|refine cI ?_ ?_|refine pI ?_ ?_)<;>intro h|(refine dI ?_;have h:=trivial))<;>simp only[h,evE,Nat.reduceLT,Nat.reduceEqDiff,reduceCtorEq,tyX,Bv,Bf,Nat.reduceAdd,Nat.reduceSub,Nat.reduceMul,Nat.reduceLeDiff,List.reduceReplicate,Int.reduceToNat,Int.reduceLE,Int.reduceLT]))
 all_goals (try (simp only[*,if_true,if_false,Bool.false_eq_true];done))
 all_goals trace_state
theorem word_ev(s:List UInt8):Ev Tp γ 299 [.v (.string ⟨s.toArray⟩)] (.v (.int .i64 (wordK s))):=by
 refine Ev.of Tryz.func299 rfl ?_;unfold wordK;simp only[←beq_iff_eq (α:=List UInt8)];simp only[Tryz.f299,evE,Nat.reduceAdd,Nat.reduceSub,Nat.reduceLT,Nat.reduceEqDiff,reduceCtorEq]
 (repeat' (first|(with_reducible refine aI ?_ ?_)|(first|(first|refine gF ?_ ?_|refine gT ?_ ?_|refine cI ?_ ?_|refine pI ?_ ?_)<;>intro h|(refine dI ?_;have h:=trivial))<;>simp only[h,evE,Nat.reduceLT,Nat.reduceEqDiff,reduceCtorEq,tyX,Bv,Bf,Nat.reduceAdd,Nat.reduceSub,Nat.reduceMul,Nat.reduceLeDiff,List.reduceReplicate,Int.reduceToNat,Int.reduceLE,Int.reduceLT]))
 all_goals (try (simp only[*,if_true,if_false,Bool.false_eq_true];done))
 all_goals trace_state
theorem level_ev(s:Int):Ev Tp γ 187 [.v (.int .i64 s)] (.v (.int .i64 (levK s))):=by
 refine Ev.of Tryz.func187 rfl ?_;unfold levK;simp only[←beq_iff_eq (α:=Int),←Bool.or_eq_true];simp only[Tryz.f187,evE,Nat.reduceAdd,Nat.reduceSub,Nat.reduceLT,Nat.reduceEqDiff,reduceCtorEq]
 (repeat' (first|(with_reducible refine aI ?_ ?_)|(first|(first|refine gF ?_ ?_|refine gT ?_ ?_|refine cI ?_ ?_|refine pI ?_ ?_)<;>intro h|(refine dI ?_;have h:=trivial))<;>simp only[h,evE,Nat.reduceLT,Nat.reduceEqDiff,reduceCtorEq,tyX,Bv,Bf,Nat.reduceAdd,Nat.reduceSub,Nat.reduceMul,Nat.reduceLeDiff,List.reduceReplicate,Int.reduceToNat,Int.reduceLE,Int.reduceLT]))
 all_goals (try (simp only[*,if_true,if_false,Bool.false_eq_true,Bool.or_false,Bool.or_true,Bool.or_self];done))
 all_goals trace_state
theorem children_ev(s:Int):Ev Tp γ 115 [.v (.int .i64 s)] (.v (.int .i64 (kidsK s))):=by
 refine Ev.of Tryz.func115 rfl ?_;generalize hk:kidsK s=r;simp only[Tryz.f115,evE,Nat.reduceAdd,Nat.reduceSub,Nat.reduceLT,Nat.reduceEqDiff,reduceCtorEq]
 (repeat' (first|(with_reducible refine aI ?_ ?_)|(first|(first|refine gF ?_ ?_|refine gT ?_ ?_|refine cI ?_ ?_|refine pI ?_ ?_)<;>intro h|(refine dI ?_;have h:=trivial))<;>simp only[h,evE,Nat.reduceLT,Nat.reduceEqDiff,reduceCtorEq,tyX,Bv,Bf,Nat.reduceAdd,Nat.reduceSub,Nat.reduceMul,Nat.reduceLeDiff,List.reduceReplicate,Int.reduceToNat,Int.reduceLE,Int.reduceLT]))
 all_goals (simp only[beq_iff_eq,beq_eq_false_iff_ne,ne_eq,decide_eq_true_eq,decide_eq_false_iff_not]at *)
 all_goals (unfold kidsK at hk;subst hk)
 all_goals (first|(rw[if_pos (by omega)])|(rw[if_neg (by omega),if_pos (by omega)])|(rw[if_neg (by omega),if_neg (by omega),if_pos (by omega)])|(rw[if_neg (by omega),if_neg (by omega),if_neg (by omega)]))
def Tr.wf:Tr→Prop
 |.lf k .. =>kidsK k=0
 |.un k a=>kidsK k=1∧a.wf
 |.bi k a b=>kidsK k=2∧a.wf∧b.wf
theorem opK_vals(s:List UInt8):opK s=17∨opK s=16∨opK s=10∨opK s=11∨opK s=12∨opK s=13∨opK s=14∨opK s=15∨opK s=5∨opK s=6∨opK s=7∨opK s=8∨opK s=9∨opK s=0:=by
 unfold opK
 by_cases h0:s=[124,124]
 ·exact .inl (by rw[if_pos h0])
 by_cases h1:s=[38,38]
 ·exact .inr (.inl (by rw[if_neg h0,if_pos h1]))
 by_cases h2:s=[61,61]
 ·exact .inr (.inr (.inl (by rw[if_neg h0,if_neg h1,if_pos h2])))
 by_cases h3:s=[33,61]
 ·exact .inr (.inr (.inr (.inl (by rw[if_neg h0,if_neg h1,if_neg h2,if_pos h3]))))
 by_cases h4:s=[60]
 ·exact .inr (.inr (.inr (.inr (.inl (by rw[if_neg h0,if_neg h1,if_neg h2,if_neg h3,if_pos h4])))))
 by_cases h5:s=[60,61]
 ·exact .inr (.inr (.inr (.inr (.inr (.inl (by rw[if_neg h0,if_neg h1,if_neg h2,if_neg h3,if_neg h4,if_pos h5]))))))
 by_cases h6:s=[62]
 ·exact .inr (.inr (.inr (.inr (.inr (.inr (.inl (by rw[if_neg h0,if_neg h1,if_neg h2,if_neg h3,if_neg h4,if_neg h5,if_pos h6])))))))
 by_cases h7:s=[62,61]
 ·exact .inr (.inr (.inr (.inr (.inr (.inr (.inr (.inl (by rw[if_neg h0,if_neg h1,if_neg h2,if_neg h3,if_neg h4,if_neg h5,if_neg h6,if_pos h7]))))))))
 by_cases h8:s=[43]
 ·exact .inr (.inr (.inr (.inr (.inr (.inr (.inr (.inr (.inl (by rw[if_neg h0,if_neg h1,if_neg h2,if_neg h3,if_neg h4,if_neg h5,if_neg h6,if_neg h7,if_pos h8])))))))))
 by_cases h9:s=[45]
 ·exact .inr (.inr (.inr (.inr (.inr (.inr (.inr (.inr (.inr (.inl (by rw[if_neg h0,if_neg h1,if_neg h2,if_neg h3,if_neg h4,if_neg h5,if_neg h6,if_neg h7,if_neg h8,if_pos h9]))))))))))
 by_cases h10:s=[42]
 ·exact .inr (.inr (.inr (.inr (.inr (.inr (.inr (.inr (.inr (.inr (.inl (by rw[if_neg h0,if_neg h1,if_neg h2,if_neg h3,if_neg h4,if_neg h5,if_neg h6,if_neg h7,if_neg h8,if_neg h9,if_pos h10])))))))))))
 by_cases h11:s=[47]
 ·exact .inr (.inr (.inr (.inr (.inr (.inr (.inr (.inr (.inr (.inr (.inr (.inl (by rw[if_neg h0,if_neg h1,if_neg h2,if_neg h3,if_neg h4,if_neg h5,if_neg h6,if_neg h7,if_neg h8,if_neg h9,if_neg h10,if_pos h11]))))))))))))
 by_cases h12:s=[37]
 ·exact .inr (.inr (.inr (.inr (.inr (.inr (.inr (.inr (.inr (.inr (.inr (.inr (.inl (by rw[if_neg h0,if_neg h1,if_neg h2,if_neg h3,if_neg h4,if_neg h5,if_neg h6,if_neg h7,if_neg h8,if_neg h9,if_neg h10,if_neg h11,if_pos h12])))))))))))))
 exact .inr (.inr (.inr (.inr (.inr (.inr (.inr (.inr (.inr (.inr (.inr (.inr (.inr (by rw[if_neg h0,if_neg h1,if_neg h2,if_neg h3,if_neg h4,if_neg h5,if_neg h6,if_neg h7,if_neg h8,if_neg h9,if_neg h10,if_neg h11,if_neg h12])))))))))))))
theorem wordK_vals(s:List UInt8):wordK s=18∨wordK s=19∨wordK s=20∨wordK s=21∨wordK s=22∨wordK s=23∨wordK s=24∨wordK s=25∨wordK s=26∨wordK s=0:=by
 unfold wordK
 by_cases h0:s=[114,101]
 ·exact .inl (by rw[if_pos h0])
 by_cases h1:s=[105,109]
 ·exact .inr (.inl (by rw[if_neg h0,if_pos h1]))
 by_cases h2:s=[115,105,122,101,50]
 ·exact .inr (.inr (.inl (by rw[if_neg h0,if_neg h1,if_pos h2])))
 by_cases h3:s=[99,111,109,112]
 ·exact .inr (.inr (.inr (.inl (by rw[if_neg h0,if_neg h1,if_neg h2,if_pos h3]))))
 by_cases h4:s=[114,101,97,108]
 ·exact .inr (.inr (.inr (.inr (.inl (by rw[if_neg h0,if_neg h1,if_neg h2,if_neg h3,if_pos h4])))))
 by_cases h5:s=[108,101,110]
 ·exact .inr (.inr (.inr (.inr (.inr (.inl (by rw[if_neg h0,if_neg h1,if_neg h2,if_neg h3,if_neg h4,if_pos h5]))))))
 by_cases h6:s=[97,116]
 ·exact .inr (.inr (.inr (.inr (.inr (.inr (.inl (by rw[if_neg h0,if_neg h1,if_neg h2,if_neg h3,if_neg h4,if_neg h5,if_pos h6])))))))
 by_cases h7:s=[99,97,116]
 ·exact .inr (.inr (.inr (.inr (.inr (.inr (.inr (.inl (by rw[if_neg h0,if_neg h1,if_neg h2,if_neg h3,if_neg h4,if_neg h5,if_neg h6,if_pos h7]))))))))
 by_cases h8:s=[115,116,114]
 ·exact .inr (.inr (.inr (.inr (.inr (.inr (.inr (.inr (.inl (by rw[if_neg h0,if_neg h1,if_neg h2,if_neg h3,if_neg h4,if_neg h5,if_neg h6,if_neg h7,if_pos h8])))))))))
 exact .inr (.inr (.inr (.inr (.inr (.inr (.inr (.inr (.inr (by rw[if_neg h0,if_neg h1,if_neg h2,if_neg h3,if_neg h4,if_neg h5,if_neg h6,if_neg h7,if_neg h8])))))))))
theorem opK_kids{s:List UInt8}(h:opK s≠0):kidsK (opK s)=2:=by
 rcases opK_vals s with e|e|e|e|e|e|e|e|e|e|e|e|e|e<;>first|exact absurd e h|(rw[e];decide)
theorem wordK_kids{s:List UInt8}(h:wordK s≠0):kidsK (wordK s)=1∨kidsK (wordK s)=2:=by
 rcases wordK_vals s with e|e|e|e|e|e|e|e|e|e<;>first|exact absurd e h|(rw[e];decide)
theorem pr_wf(ts:List Tk):∀ (f:Nat) (m:Md) (p:Nat) (t:Tr) (q:Nat),(∀ n a,m=.lp n a→a.wf)→pr ts f m p=.ok t q→t.wf:=by
 intro f
 induction f with
 |zero=>intro m p t q _ h;cases m<;>cases h
 |succ f ih=>
  intro m p t q hm h;cases m with
  |bin n=>
   rw[pr]at h
   split at h
   ·exact ih .un _ _ _ (fun _ _ e=>by cases e) h
   ·split at h
    ·cases h
    ·rename_i a q' e;have ha:=ih (.bin (n+1)) _ _ _ (fun _ _ e=>by cases e) e;exact ih (.lp n a) _ _ _ (fun _ _ e=>by cases e;exact ha) h
  |lp n a=>
   have ha:=hm n a rfl;rw[pr]at h
   split at h
   ·cases h;exact ha
   ·rename_i hk;have hk0:opK (mkA ts p)≠0:=fun e=>hk (.inl e)
    split at h
    ·cases h
    ·rename_i b q' e;have hb:=ih (.bin (n+1)) _ _ _ (fun _ _ e=>by cases e) e
     split at h
     ·cases h;exact⟨opK_kids hk0,ha,hb⟩
     ·exact ih _ _ _ _ (fun _ _ e=>by cases e;exact⟨opK_kids hk0,ha,hb⟩) h
  |un=>
   rw[pr]at h
   split at h
   ·split at h
    ·cases h
    ·rename_i a q' e;have ha:=ih .un _ _ _ (fun _ _ e=>by cases e) e;cases h;refine⟨?_,ha⟩
     split<;>decide
   ·exact ih .fs _ _ _ (fun _ _ e=>by cases e) h
  |fs=>
   rw[pr]at h
   split at h
   ·split at h
    ·cases h
    ·rename_i a q' e;have ha:=ih (.bin 1) _ _ _ (fun _ _ e=>by cases e) e
     split at h
     ·cases h;exact ha
     ·cases h
   ·split at h
    ·cases h
    ·split at h
     ·cases h
     ·split at h
      ·cases h;show kidsK 1=0;decide
      ·split at h
       ·cases h;show kidsK 1=0;decide
       ·split at h
        ·cases h;show kidsK 1=0;decide
        ·exact ih (.nm _) _ _ _ (fun _ _ e=>by cases e) h
  |nm s=>
   rw[pr]at h
   split at h
   ·cases h;show kidsK 1=0;decide
   split at h
   ·cases h;show kidsK 1=0;decide
   split at h
   ·cases h;show kidsK 2=0;decide
   rename_i hw
   split at h
   ·cases h
   split at h
   ·cases h
   rename_i a q' e;have ha:=ih (.bin 1) _ _ _ (fun _ _ e=>by cases e) e
   split at h
   ·rename_i hk2
    split at h
    ·cases h
    split at h
    ·cases h
    rename_i b r e2;have hb:=ih (.bin 1) _ _ _ (fun _ _ e=>by cases e) e2
    split at h
    ·cases h;exact⟨hk2,ha,hb⟩
    ·cases h
   ·rename_i hk2
    split at h
    ·cases h;exact⟨(wordK_kids hw).resolve_right hk2,ha⟩
    ·cases h
def dps:Tr→List Nat
 |.lf .. =>[1]
 |.un k a=>dps a++[a.deep+1]
 |.bi k a b=>dps a++dps b++[max a.deep b.deep+1]
theorem dps_length(t:Tr):(dps t).length=t.size:=by
 induction t with
 |lf=>rfl
 |un k a ih=>simp[dps,Tr.size,ih]
 |bi k a b iha ihb=>simp[dps,Tr.size,iha,ihb];omega
theorem dps_last(t:Tr):(dps t)[t.size-1]?=some t.deep:=by
 cases t with
 |lf=>rfl
 |un k a=>simp[dps,Tr.size,Tr.deep,dps_length]
 |bi k a b=>simp[dps,Tr.size,Tr.deep,dps_length]
theorem dps_le(t:Tr):∀ d∈dps t,d≤t.deep:=by
 induction t with
 |lf=>intro d h;simp only[dps,Bj]at h;subst h;exact BL _
 |un k a ih=>
  intro d h;simp only[dps,List.mem_append,Bj]at h
  rcases h with h|rfl
  ·exact BM (ih d h) (Nat.le_succ _)
  ·exact BL _
 |bi k a b iha ihb=>
  intro d h;simp only[dps,List.mem_append,Bj]at h;simp only[Tr.deep]
  rcases h with (h|h)|rfl
  ·have:=iha d h;omega
  ·have:=ihb d h;omega
  ·exact BL _
theorem deep_pos(t:Tr):1≤t.deep:=by cases t<;>simp only[Tr.deep]<;>omega
def NodeAt(n:Nat)(ds:List Nat)(nd:Nd)(i:Nat)(d:Nat):Prop:=
 (kidsK nd.k=0∧d=1)∨(kidsK nd.k=1∧∃ a x:Nat,nd.a=((n+a:Nat):Int)∧a<i∧ds[a]?=some x∧1≤x∧d=x+1)∨
  (kidsK nd.k=2∧∃ a x b y:Nat,nd.a=((n+a:Nat):Int)∧nd.b=((n+b:Nat):Int)∧a<i∧b<i∧ds[a]?=some x∧ds[b]?=some y∧d=max x y+1)
theorem NodeAt.more{n:Nat}{ds:List Nat}{nd:Nd}{i d:Nat}(h:NodeAt n ds nd i d)(l:List Nat):NodeAt n (ds++l) nd i d:=by
 have app:∀ {a x:Nat},ds[a]?=some x→(ds++l)[a]?=some x:=fun {a x} e=>(Ba (Bs.1 e).1).trans e
 rcases h with h|⟨h,a,x,h1,h2,h3,h4⟩|⟨h,a,x,b,y,h1,h2,h3,h4,h5,h6,h7⟩
 ·exact .inl h
 ·exact .inr (.inl ⟨h,a,x,h1,h2,app h3,h4⟩)
 ·exact .inr (.inr ⟨h,a,x,b,y,h1,h2,h3,h4,app h5,app h6,h7⟩)
theorem NodeAt.shift{n m:Nat}{ds pre:List Nat}{nd:Nd}{i d:Nat}(h:NodeAt (n+m) ds nd i d)(hm:pre.length=m):NodeAt n (pre++ds) nd (m+i) d:=by
 have app:∀ {a x:Nat},ds[a]?=some x→(pre++ds)[m+a]?=some x:=fun {a x} e=>by rw[Br (by omega)];rw[show m+a-pre.length=a by omega];exact e
 rcases h with h|⟨h,a,x,h1,h2,h3,h4⟩|⟨h,a,x,b,y,h1,h2,h3,h4,h5,h6,h7⟩
 ·exact .inl h
 ·exact .inr (.inl ⟨h,m+a,x,by rw[h1,Nat.add_assoc],by omega,app h3,h4⟩)
 ·exact .inr (.inr ⟨h,m+a,x,m+b,y,by rw[h1,Nat.add_assoc],by rw[h2,Nat.add_assoc],by omega,by omega,app h5,app h6,h7⟩)
theorem nodes_at(t:Tr)(hw:t.wf):∀ (n i:Nat) (nd:Nd),(lay t n)[i]?=some nd→∃ d,(dps t)[i]?=some d∧NodeAt n (dps t) nd i d:=by
 induction t with
 |lf k nm vk vi vr vt=>
  intro n i nd h;cases i with
  |succ i=>cases h
  |zero=>cases h;exact⟨1,rfl,.inl ⟨hw,rfl⟩⟩
 |un k a ih=>
  intro n i nd h;have hl:=lay_length a n;have hd:=dps_length a;have hp:=size_pos a
  by_cases hi:i<a.size
  ·rw[lay,Ba (by omega)]at h;obtain⟨d,h1,h2⟩:=ih hw.2 n i nd h;exact⟨d,by rw[dps,Ba (by omega)];exact h1,h2.more _⟩
  ·rw[lay,Br (by omega),hl]at h
   have hi2:i=a.size:=by
    cases e:i-a.size with
    |zero=>omega
    |succ j=>rw[e]at h;cases h
   subst hi2;rw[Nat.sub_self]at h;cases h;have hlast:=dps_last a;refine⟨a.deep+1,by rw[dps,Br (by omega),hd,Nat.sub_self];rfl,.inr (.inl ⟨hw.1,a.size-1,a.deep,by rw[Nat.add_sub_assoc hp],by omega,?_,deep_pos a,rfl⟩)⟩;rw[dps,Ba (by omega)];exact hlast
 |bi k a b iha ihb=>
  intro n i nd h;have hla:=lay_length a n;have hda:=dps_length a;have hpa:=size_pos a;have hlb:=lay_length b (n+a.size);have hdb:=dps_length b;have hpb:=size_pos b;rw[lay]at h
  by_cases hi:i<a.size
  ·rw[Bo,Ba (by omega)]at h;obtain⟨d,h1,h2⟩:=iha hw.2.1 n i nd h;exact⟨d,by rw[dps,Bo,Ba (by omega)];exact h1,by rw[dps,Bo];exact h2.more _⟩
  ·by_cases hj:i<a.size+b.size
   ·rw[Bo,Br (by omega),Ba (by omega),hla]at h;obtain⟨d,h1,h2⟩:=ihb hw.2.2 (n+a.size) (i-a.size) nd h;refine⟨d,by rw[dps,Bo,Br (by omega),Ba (by omega),hda];exact h1,?_⟩;rw[dps];have:=(h2.shift hda).more [max a.deep b.deep+1]
    rwa [show a.size+(i-a.size)=i by omega]at this
   ·rw[Br (by rw[Bp];omega),Bp,hla,hlb]at h
    have hi2:i=a.size+b.size:=by
     cases e:i-(a.size+b.size)with
     |zero=>omega
     |succ j=>rw[e]at h;cases h
    subst hi2;rw[Nat.sub_self]at h;cases h;refine⟨max a.deep b.deep+1,by rw[dps,Br (by rw[Bp];omega),Bp,hda,hdb,Nat.sub_self];rfl,.inr (.inr ⟨hw.1,a.size-1,a.deep,a.size+b.size-1,b.deep,by rw[Nat.add_sub_assoc hpa],?_,by omega,by omega,?_,?_,rfl⟩)⟩
    ·show ((n+a.size+b.size-1:Nat):Int)=_;rw[show n+a.size+b.size-1=n+(a.size+b.size-1)by omega]
    ·rw[dps,Bo,Ba (by omega)];exact dps_last a
    ·rw[dps,Ba (by rw[Bp];omega),Br (by omega),hda,show a.size+b.size-1-a.size=b.size-1 by omega];exact dps_last b
def limK(n d:Nat):Int:=if 64<n then 52 else if 12<d then 51 else 0
theorem c184:bodyT Tp 184:=⟨_,Tryz.func184,by kernel_rfl,by kernel_rfl⟩
theorem c114:bodyT Tp 114:=⟨_,Tryz.func114,by kernel_rfl,by kernel_rfl⟩
theorem c245:bodyT Tp 245:=⟨_,Tryz.func245,by kernel_rfl,by kernel_rfl⟩
theorem c283:bodyT Tp 283:=⟨_,Tryz.func283,by kernel_rfl,by kernel_rfl⟩
def CallOk(γ:List (Nat×AV))(ts:List Tk)(L:AV)(f:Nat)(g:FuncId)(xs:List AV)(m:Md):Prop:=
 ∀ (h:List ABlk) (i p:Nat) (N:AV) (ns:List Nd),p≤ts.length→m.need ts p≤f→RS h i L p N ns→(ns.length+(ts.length-p)+1) * 96≤140737488355328→
  EvM Tp γ g (.ptr i 0 0::xs) h (ResP L i N h ns (pr ts f m p))
structure PrOk(γ:List (Nat×AV))(ts:List Tk)(L:AV)(f:Nat):Prop where
 bin:∀ n:Nat,1≤n→n≤6→CallOk γ ts L f 114 [.v (.int .i64 (n:Int))] (.bin n)
 un:CallOk γ ts L f 184 [] .un
 fs:CallOk γ ts L f 245 [] .fs
 nm:∀ s,CallOk γ ts L f 283 [.v (.string ⟨s.toArray⟩)] (.nm s)
theorem ResP.bad_of{L:AV}{i:Nat}{N N':AV}{h h1 h':List ABlk}{ns ns':List Nd}{q:Nat}{v:AV}(r:ResP L i N' h1 ns' (.bad q) (.pan v) h')(f:Fr (RP i N) h h1)(hn:∀ k,nbk N' k→nbk N k∨h.length≤k):
  ResP L i N h ns (.bad q) (.pan v) h':=
 ⟨f.trans r.1 fun k hk=>hk.elim (fun e=>.inl (.inl e)) fun e=>(hn k e).elim (fun e=>.inl (.inr e)) .inr,r.2⟩
theorem ResP.ok_ret{L:AV}{i:Nat}{N:AV}{h h':List ABlk}{ns:List Nd}{t:Tr}{q:Nat}{r:AV}(hh:ResP L i N h ns (.ok t q) (.ret r) h'):
  r=.v (.int .i64 ((ns.length+t.size-1:Nat):Int))∧Fr (RP i N) h h'∧∃ N',RS h' i L q N' (ns++lay t ns.length)∧∀ k,nbk N' k→nbk N k∨h.length≤k:=
 ⟨by have:=hh.2.1;cases this;rfl,hh.1,hh.2.2⟩
theorem ResP.ok_pan{L:AV}{i:Nat}{N:AV}{h h':List ABlk}{ns:List Nd}{t:Tr}{q:Nat}{r:AV}(hh:ResP L i N h ns (.ok t q) (.pan r) h'):False:=by
 have:=hh.2.1;cases this
theorem ResP.bad_ret{L:AV}{i:Nat}{N:AV}{h h':List ABlk}{ns:List Nd}{q:Nat}{r:AV}(hh:ResP L i N h ns (.bad q) (.ret r) h'):False:=by
 have:=hh.2;cases this
theorem Fr.more{i:Nat}{N N':AV}{h h1 h2:List ABlk}(a:Fr (RP i N) h h1)(b:Fr (RP i N') h1 h2)(hn:∀ k,nbk N' k→nbk N k∨h.length≤k):Fr (RP i N) h h2:=
 a.trans b fun k hk=>hk.elim (fun e=>.inl (.inl e)) fun e=>(hn k e).elim (fun e=>.inl (.inr e)) .inr
theorem more_nbk{N N1 N2:AV}{h h1:List ABlk}(hl:h.length≤h1.length)(a:∀ k,nbk N1 k→nbk N k∨h.length≤k)(b:∀ k,nbk N2 k→nbk N1 k∨h1.length≤k):∀ k,nbk N2 k→nbk N k∨h.length≤k:=
 fun k hk=>(b k hk).elim (a k) fun e=>.inr (BM hl e)
theorem bnd1{n n2 l p p2:Nat}(h:(n+(l-p)+1) * 96≤140737488355328)(hk:n2+(l-p2)≤n+(l-p)):(n2+(l-p2)+1) * 96≤140737488355328:=BM (Nat.mul_le_mul_right 96 (by omega)) h
theorem w64{p l:Nat}(hp:p≤l)(hb:l<4611686018427387904):IntKind.i64.wrap ((p:Int)+1)=((p+1:Nat):Int):=(i64w (by omega) (by omega)).trans (by omega)
theorem fr_move{h:List ABlk}{i:Nat}{N:AV}(b:ABlk):Fr (RP i N) h (h.set i b):=Fr.set _ (.inl rfl)
theorem ResP.ok_mk{L:AV}{i:Nat}{N N':AV}{h h':List ABlk}{ns ns':List Nd}{t:Tr}{q:Nat}{v:Int}{res:Res}(hp:res=.ok t q)(hv:v=((ns.length+t.size-1:Nat):Int))(f:Fr (RP i N) h h')(hr:RS h' i L q N' ns')(hn:ns'=ns++lay t ns.length)
  (hk:∀ k,nbk N' k→nbk N k∨h.length≤k):ResP L i N h ns res (.ret (.v (.int .i64 v))) h':=by
 subst hp;subst hv;subst hn;exact⟨f,rfl,N',hr,hk⟩
variable {γ:List (Nat×AV)} {ts:List Tk} {L:AV}
theorem un_step(hL:LAt L ts)(hb:ts.length<4611686018427387904){f:Nat}(H:PrOk γ ts L f):CallOk γ ts L (f+1) 184 [] .un:=by
 intro h i p N ns hp hf hr hB;have hi:=hr.1;have w1:IntKind.i64.wrap ((p:Int)+1)=((p+1:Nat):Int):=w64 hp hb;refine EvM.of Tryz.func184 rfl ?_;simp only[Tryz.f184,evE,Nat.reduceAdd,Nat.reduceSub,Nat.reduceLT,Nat.reduceEqDiff,reduceCtorEq];refine CallE.intro c186 _ (mark_ev hL hr) (fun r h' hh=>?_) (fun v h' hh=>by cases hh.1);obtain⟨e,rfl⟩:=hh;cases e
 have main:∀ k:Int,(if mkA ts p=[45]then (3:Int)else 4)=k→(mkA ts p=[45]∨mkA ts p=[33])→∀ (K:St→Prop) (s:Slots),s.g=γ→
   (∀ (a:Tr) (q:Nat) (h1:List ABlk) (r:AV) (N':AV),pr ts f .un (p+1)=.ok a q→r=.v (.int .i64 ((ns.length+a.size-1:Nat):Int))→Fr (RP i N) h' h1→RS h1 i L q N' (ns++lay a ns.length)→(∀ k,nbk N' k→nbk N k∨h'.length≤k)→K (pt ⟨s,h1⟩ (some 22) r))→
   CallE Tp (panE (ResP L i N h' ns (pr ts (f+1) .un p))) 184 [.ptr i 0 0] (some 22) K ⟨s,h'.set i ⟨0,104,[L,.v (.int .i64 ((p+1:Nat):Int)),N]⟩⟩:=by
  intro k hk hm K s hs hK;have hlt:p<ts.length:=hm.elim mkA_eq mkA_eq;subst hs;have hn:Md.need ts (p+1) .un≤f:=by clear w1;simp only[Md.need]at hf⊢;omega
  have hB':(ns.length+(ts.length-(p+1))+1) * 96≤140737488355328:=bnd1 hB (by clear w1;omega);have hp':p+1≤ts.length:=hlt;have hc:=H.un (h'.set i ⟨0,104,[L,.v (.int .i64 ((p+1:Nat):Int)),N]⟩) i (p+1) N ns hp' hn (hr.move (p+1)) hB';refine CallE.intro c184 _ hc (fun r h1 hh=>?_) (fun v h1 hh=>?_)
  ·cases e:pr ts f .un (p+1)with
   |bad q=>rw[e]at hh;exact hh.bad_ret.elim
   |ok a q=>
    rw[e]at hh;obtain⟨e1,f1,N',r1,n1⟩:=hh.ok_ret;exact hK a q h1 r N' e e1 (Fr.more (fr_move _) f1 fun k hk=>.inl hk) r1 fun k hk=>(n1 k hk).imp id fun e=>by simpa using e
  ·cases e:pr ts f .un (p+1)with
   |bad q=>
    rw[e]at hh;show ResP L i N h' ns (pr ts (f+1) .un p) (.pan v) h1;rw[pr,if_pos hm,e];exact hh.bad_of (fr_move _) fun k hk=>.inl hk
   |ok a q=>rw[e]at hh;exact hh.ok_pan.elim
 have fin:∀ k:Int,(if mkA ts p=[45]then (3:Int)else 4)=k→(mkA ts p=[45]∨mkA ts p=[33])→∀ (a:Tr) (q:Nat) (h1 h2:List ABlk) (N':AV),pr ts f .un (p+1)=.ok a q→Fr (RP i N) h' h1→(∀ k,nbk N' k→nbk N k∨h'.length≤k)→∀ r,
   PutP L i q N' (ns++lay a ns.length) ⟨k,((ns.length+a.size-1:Nat):Int),0,[],0,0,0,[]⟩ h1 (.ret r) h2→ResP L i N h' ns (pr ts (f+1) .un p) (.ret r) h2:=by
  intro k hk hm a q h1 h2 N' e f1 n1 r hh;obtain⟨e2,f2,N2,r2,n2⟩:=hh;cases e2;refine ResP.ok_mk (t:=.un k a) (by rw[pr,if_pos hm,e,hk]) (by rw[Bp,lay_length];rfl) (Fr.more f1 f2 n1) r2 ?_ (more_nbk f1.1 n1 n2);rw[Bo];rfl
 have bnd:∀ (a:Tr) (q:Nat),p<ts.length→pr ts f .un (p+1)=.ok a q→((ns++lay a ns.length).length+1) * 96≤140737488355328:=by
  intro a q hlt e;clear w1;obtain⟨⟨g1,g2⟩,g3⟩:=pr_adv ts f .un (p+1) a q hlt e;rw[Bp,lay_length];exact BM (Nat.mul_le_mul_right 96 (by omega)) hB
 by_cases h1:mkA ts p=[45]
 ·have d1:(mkA ts p==[45])=true:=by simpa using h1
  simp only[hi,d1,w1,evE,tyX,Nat.reduceAdd,Nat.reduceLT,Nat.reduceLeDiff,Nat.reduceEqDiff,reduceCtorEq];refine main 3 (by rw[if_pos h1]) (.inl h1) _ _ rfl ?_;intro a q h1' r N' e er f1 r1 n1;subst er;simp only[evE,tyX,Nat.reduceAdd,Nat.reduceLT,Nat.reduceLeDiff,Nat.reduceEqDiff,reduceCtorEq];refine CallE.intro c188 _ (put_ev r1 ⟨3,((ns.length+a.size-1:Nat):Int),0,[],0,0,0,[]⟩ (bnd a q (mkA_eq h1) e)) (fun r h2 hh=>?_) (fun v h2 hh=>by cases hh.1);simp only[evE,Nat.reduceLT,Nat.reduceEqDiff,reduceCtorEq];exact fin 3 (by rw[if_pos h1]) (.inl h1) a q h1' h2 N' e f1 n1 r hh
 ·have d1:(mkA ts p==[45])=false:=by simpa using h1
  by_cases h2:mkA ts p=[33]
  ·have d2:(mkA ts p==[33])=true:=by simpa using h2
   simp only[hi,d1,d2,w1,evE,tyX,Nat.reduceAdd,Nat.reduceLT,Nat.reduceLeDiff,Nat.reduceEqDiff,reduceCtorEq];refine main 4 (by rw[if_neg h1]) (.inr h2) _ _ rfl ?_;intro a q h1' r N' e er f1 r1 n1;subst er;simp only[evE,tyX,Nat.reduceAdd,Nat.reduceLT,Nat.reduceLeDiff,Nat.reduceEqDiff,reduceCtorEq];refine CallE.intro c188 _ (put_ev r1 ⟨4,((ns.length+a.size-1:Nat):Int),0,[],0,0,0,[]⟩ (bnd a q (mkA_eq h2) e)) (fun r h3 hh=>?_) (fun v h2 hh=>by cases hh.1);simp only[evE,Nat.reduceLT,Nat.reduceEqDiff,reduceCtorEq];exact fin 4 (by rw[if_neg h1]) (.inr h2) a q h1' _ N' e f1 n1 r hh
  ·have d2:(mkA ts p==[33])=false:=by simpa using h2
   have epr:pr ts (f+1) .un p=pr ts f .fs p:=by rw[pr,if_neg (fun e=>e.elim h1 h2)]
   simp only[d1,d2,evE,Nat.reduceLT,Nat.reduceEqDiff,reduceCtorEq];have hn:Md.need ts p .fs≤f:=by clear w1;simp only[Md.need]at hf⊢;omega
   refine CallE.intro c245 _ (H.fs h' i p N ns hp hn hr hB) (fun r h2 hh=>?_) (fun v h2 hh=>?_)
   ·simp only[evE,Nat.reduceLT,Nat.reduceEqDiff,reduceCtorEq];rw[epr];exact hh
   ·show ResP L i N h' ns (pr ts (f+1) .un p) (.pan v) h2
    rw[epr];exact hh
structure LpI where
 a:Tr
 q:Nat
 h:List ABlk
 N:AV
 g:Nat
def lpS(γ:List (Nat×AV))(i n:Nat)(ns:List Nd)(x:LpI):St:=⟨⟨46,[(0,.ptr i 0 0),(1,.v (.int .i64 (n:Int))),(5,.v (.int .i64 ((ns.length+x.a.size-1:Nat):Int)))],γ⟩,x.h⟩
def lpI(ts:List Tk)(L:AV)(h:List ABlk)(i n p:Nat)(N:AV)(ns:List Nd)(f:Nat)(x:LpI):Prop:=
 p<x.q∧x.q≤ts.length∧x.a.size+p≤x.q∧Fr (RP i N) h x.h∧RS x.h i L x.q x.N (ns++lay x.a ns.length)∧(∀ k,nbk x.N k→nbk N k∨h.length≤k)∧pr ts f (.bin n) p=pr ts x.g (.lp n x.a) x.q∧(Md.lp n x.a).need ts x.q≤x.g∧x.g+1≤f
theorem bin_step(hL:LAt L ts)(hb:ts.length<4611686018427387904){f:Nat}(H:∀ g≤f,PrOk γ ts L g){n:Nat}(hn1:1≤n)(hn6:n≤6):CallOk γ ts L (f+1) 114 [.v (.int .i64 (n:Int))] (.bin n):=by
 intro h i p N ns hp hf hr hB;have hi:=hr.1;refine EvM.of Tryz.func114 rfl ?_
 by_cases h6:n=6
 ·subst h6;have epr:pr ts (f+1) (.bin 6) p=pr ts f .un p:=by rw[pr,if_pos (by decide)]
  have hn:Md.need ts p .un≤f:=by simp only[Md.need]at hf⊢;omega
  have d0:decide ((5:Int)<((6:Nat):Int))=true:=by decide
  simp only[Tryz.f114,d0,evE,Nat.reduceAdd,Nat.reduceSub,Nat.reduceLT,Nat.reduceEqDiff,reduceCtorEq];refine CallE.intro c184 _ ((H f (BL _)).un h i p N ns hp hn hr hB) (fun r h2 hh=>?_) (fun v h2 hh=>?_)
  ·simp only[evE,Nat.reduceLT,Nat.reduceEqDiff,reduceCtorEq];rw[epr];exact hh
  ·show ResP L i N h ns (pr ts (f+1) (.bin 6) p) (.pan v) h2
   rw[epr];exact hh
 ·have d1:decide (5<(n:Int))=false:=decide_eq_false (by omega);have w1:IntKind.i64.wrap ((n:Int)+1)=((n+1:Nat):Int):=(i64w (by omega) (by omega)).trans (by omega);have hn:Md.need ts p (.bin (n+1))≤f:=by clear w1;simp only[Md.need]at hf⊢;omega
  have hc:=(H f (BL _)).bin (n+1) (by clear w1;omega) (by clear w1;omega) h i p N ns hp hn hr hB
  have epr:pr ts (f+1) (.bin n) p=match pr ts f (.bin (n+1)) p with
   |.bad q=>.bad q
   |.ok a q=>pr ts f (.lp n a) q:=by rw[pr,if_neg (by clear w1;omega)]<;>cases pr ts f (.bin (n+1)) p<;>rfl
  simp only[Tryz.f114,d1,w1,evE,Nat.reduceAdd,Nat.reduceSub,Nat.reduceLT,Nat.reduceEqDiff,reduceCtorEq];refine CallE.intro c114 _ hc (fun r h1 hh=>?_) (fun v h2 hh=>?_)
  rotate_left
  ·cases e:pr ts f (.bin (n+1)) p with
   |ok a q=>rw[e]at hh;exact hh.ok_pan.elim
   |bad q=>
    rw[e]at hh epr;show ResP L i N h ns (pr ts (f+1) (.bin n) p) (.pan v) h2;rw[epr];exact hh
  cases e:pr ts f (.bin (n+1)) p with
  |bad q=>rw[e]at hh;exact hh.bad_ret.elim
  |ok a q=>
   rw[e]at hh epr;obtain⟨er,f1,N',r1,n1⟩:=hh.ok_ret;subst er;have hadv:=pr_adv ts f (.bin (n+1)) p a q hp e;simp only[evE,Nat.reduceLT,Nat.reduceEqDiff,reduceCtorEq];refine LoopE.intro (lpS γ i n ns) (lpI ts L h i n p N ns (f+1)) (fun x=>ts.length-x.q) ⟨a,q,h1,N',f⟩ ?_ ?_ (fun x hx=>?_)
   ·exact⟨rfl,rfl,⟨rfl,rfl,rfl,trivial⟩,rfl⟩
   ·obtain⟨⟨g1,g2⟩,g3⟩:=hadv;refine⟨g1,g3,g2,f1,r1,n1,epr,?_,BL _⟩;clear w1;simp only[Md.need]at hf⊢;omega
   ·clear e epr hadv hh r1 n1 f1 hc hn;obtain⟨a,q,h1,N1,g⟩:=x;obtain⟨x1,x2,x3,f1,r1,n1,epr,hneed,hg⟩:=hx;simp only at x1 x2 x3 f1 r1 n1 epr hneed hg;obtain⟨g,rfl⟩:∃ g',g=g'+1:=⟨g-1,by clear w1;simp only[Md.need]at hneed;omega⟩;have w2:IntKind.i64.wrap ((q:Int)+1)=((q+1:Nat):Int):=w64 x2 hb;have hi1:=r1.1;simp only[lpS,evE,Nat.reduceLT,Nat.reduceEqDiff,reduceCtorEq];refine CallE.intro c186 _ (mark_ev hL r1) (fun r h2 hh=>?_) (fun v h' hh=>by cases hh.1);obtain⟨e,rfl⟩:=hh;cases e;simp only[evE,Nat.reduceLT,Nat.reduceEqDiff,reduceCtorEq];refine CallE.pure (CallK.intro c185 rfl (operator_ev _) ?_)
    have stop:(opK (mkA ts q)=0∨levK (opK (mkA ts q))≠n)→ResP L i N h ns (pr ts (f+1) (.bin n) p) (.ret (.v (.int .i64 ((ns.length+a.size-1:Nat):Int)))) h2:=by
     intro hs;refine ResP.ok_mk (t:=a) (q:=q) ?_ rfl f1 r1 rfl n1;rw[epr,pr,if_pos hs]
    by_cases hk0:opK (mkA ts q)=0
    ·have d2:(opK (mkA ts q)==0)=true:=by simpa using hk0
     simp only[d2,evE,Nat.reduceLT,Nat.reduceEqDiff,reduceCtorEq];exact stop (.inl hk0)
    ·have d2:(opK (mkA ts q)==0)=false:=by simpa using hk0
     simp only[d2,evE,Nat.reduceLT,Nat.reduceEqDiff,reduceCtorEq];refine CallE.pure (CallK.intro c187 rfl (level_ev _) ?_)
     by_cases hl:levK (opK (mkA ts q))=n
     ·have d3:(levK (opK (mkA ts q)) != (n:Int))=false:=by simpa using hl
      simp only[d3,hi1,w1,w2,evE,tyX,Nat.reduceAdd,Nat.reduceLT,Nat.reduceLeDiff,Nat.reduceEqDiff,reduceCtorEq];have hlt:q<ts.length:=opK_lt hk0;have hstop:¬(opK (mkA ts q)=0∨levK (opK (mkA ts q))≠n):=fun h=>h.elim hk0 fun h=>h hl
      have hgf:g≤f:=by clear w1 w2;omega
      have hn2:Md.need ts (q+1) (.bin (n+1))≤g:=by clear w1 w2;simp only[Md.need]at hneed⊢;omega
      have hlen:(ns++lay a ns.length).length=ns.length+a.size:=by rw[Bp,lay_length]
      have hB2:((ns++lay a ns.length).length+(ts.length-(q+1))+1) * 96≤140737488355328:=by rw[hlen];exact bnd1 hB (by clear w1 w2;omega)
      have hc:=(H g hgf).bin (n+1) (by clear w1 w2;omega) (by clear w1 w2;omega) (h2.set i ⟨0,104,[L,.v (.int .i64 ((q+1:Nat):Int)),N1]⟩) i (q+1) N1 (ns++lay a ns.length) hlt hn2 (r1.move (q+1)) hB2
      have epr2:pr ts (g+1) (.lp n a) q=match pr ts g (.bin (n+1)) (q+1)with
       |.bad q=>.bad q
       |.ok b q'=>if n=3 then .ok (.bi (opK (mkA ts q)) a b) q' else pr ts g (.lp n (.bi (opK (mkA ts q)) a b)) q':=by rw[pr,if_neg hstop]<;>cases pr ts g (.bin (n+1)) (q+1)<;>rfl
      refine CallE.intro c114 _ hc (fun r h3 hh=>?_) (fun v h3 hh=>?_)
      rotate_left
      ·cases e:pr ts g (.bin (n+1)) (q+1)with
       |ok b q'=>rw[e]at hh;exact hh.ok_pan.elim
       |bad q'=>
        rw[e]at hh epr2;show ResP L i N h ns (pr ts (f+1) (.bin n) p) (.pan v) h3;rw[epr,epr2];exact hh.bad_of (Fr.more f1 (fr_move _) n1) n1
      cases e:pr ts g (.bin (n+1)) (q+1)with
      |bad q'=>rw[e]at hh;exact hh.bad_ret.elim
      |ok b q'=>
       rw[e]at hh epr2;obtain⟨er,f3,N3,r3,n3⟩:=hh.ok_ret;subst er;have n3':∀ k,nbk N3 k→nbk N1 k∨h2.length≤k:=fun k hk=>(n3 k hk).imp id fun e=>by simpa using e
       have f13:Fr (RP i N) h h3:=Fr.more f1 (Fr.more (fr_move _) f3 fun k hk=>.inl hk) n1;have n13:=more_nbk f1.1 n1 n3';obtain⟨⟨g1,g2⟩,g3⟩:=pr_adv ts g (.bin (n+1)) (q+1) b q' hlt e;have hlen3:(ns++lay a ns.length++lay b (ns++lay a ns.length).length).length=ns.length+a.size+b.size:=by rw[Bp,lay_length,hlen]
       have hlay:lay (.bi (opK (mkA ts q)) a b) ns.length=lay a ns.length++lay b (ns.length+a.size)++[⟨opK (mkA ts q),((ns.length+a.size-1:Nat):Int),((ns.length+a.size+b.size-1:Nat):Int),[],0,0,0,[]⟩]:=rfl;rw[hlen]at *;simp only[evE,tyX,Nat.reduceAdd,Nat.reduceLT,Nat.reduceLeDiff,Nat.reduceEqDiff,reduceCtorEq];refine CallE.intro c188 _ (put_ev r3 ⟨opK (mkA ts q),((ns.length+a.size-1:Nat):Int),((ns.length+a.size+b.size-1:Nat):Int),[],0,0,0,[]⟩ (by rw[hlen3];exact BM (Nat.mul_le_mul_right 96 (by clear w1 w2;omega)) hB)) (fun r h4 hh=>?_) (fun v h2 hh=>by cases hh.1);obtain⟨e4,f4,N4,r4,n4⟩:=hh;cases e4;rw[hlen3];have f14:Fr (RP i N) h h4:=Fr.more f13 f4 n13;have n14:=more_nbk f13.1 n13 n4;have r4':RS h4 i L q' N4 (ns++lay (.bi (opK (mkA ts q)) a b) ns.length):=by rw[hlay];simpa[Bo]using r4
       by_cases h3n:n=3
       ·have d4:((n:Int)==3)=true:=by subst h3n;rfl
        simp only[d4,evE,Nat.reduceLT,Nat.reduceEqDiff,reduceCtorEq];exact ResP.ok_mk (t:=.bi (opK (mkA ts q)) a b) (q:=q') (by rw[epr,epr2,h3n];rfl) (by simp only[Tr.size];clear w1 w2;omega) f14 r4' rfl n14
       ·have d4:((n:Int)==3)=false:=by simp only[beq_eq_false_iff_ne,ne_eq];clear w1 w2;omega
        simp only[d4,evE,Nat.reduceLT,Nat.reduceEqDiff,reduceCtorEq];refine loopCE.intro ⟨.bi (opK (mkA ts q)) a b,q',h4,N4,g⟩ ⟨?_,g3,?_,f14,r4',n14,?_,?_,?_⟩ ⟨rfl,rfl,?_,rfl⟩ ?_
        ·show p<q';clear w1 w2;omega
        ·simp only[Tr.size];clear w1 w2;omega
        ·rw[epr,epr2];exact if_neg h3n
        ·clear w1 w2;simp only[Md.need]at hneed⊢;omega
        ·show g+1≤f+1;clear w1 w2;omega
        ·refine⟨rfl,rfl,?_,trivial⟩;show AV.v (.int .i64 ((ns.length+a.size+b.size:Nat):Int))=AV.v (.int .i64 ((ns.length+(a.size+b.size+1)-1:Nat):Int));rw[show ns.length+(a.size+b.size+1)-1=ns.length+a.size+b.size by clear w1 w2;omega]
        ·show ts.length-q'<ts.length-q;clear w1 w2;omega
     ·have d3:(levK (opK (mkA ts q)) != (n:Int))=true:=by simpa using hl
      simp only[d3,evE,Nat.reduceLT,Nat.reduceEqDiff,reduceCtorEq];exact stop (.inr hl)
end Go.Proofs.YtlobiioioicmhaaGreatDoor
