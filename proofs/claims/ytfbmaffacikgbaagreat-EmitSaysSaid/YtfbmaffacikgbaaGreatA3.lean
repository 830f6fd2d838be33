/- A part of the proof of EmitSays. -/
import Derived.Test.YtfbmaffacikgbaaGreatA1
set_option maxRecDepth 100000
set_option maxHeartbeats 4000000
set_option linter.unusedVariables false
set_option linter.unusedSimpArgs false
open Go renaming Calls→O
open Go.Proofs.Tryz renaming prog→U
open Nat renaming le_refl→aA,lt_of_lt_of_le→aF,le_trans→aG,zero_le→aJ
open List renaming getElem?_eq_getElem→aB,length_append→aD,getElem_mem→aE,length_map→aI,mem_singleton→aK,take_succ_eq_append_getElem→aL,length_cons→aM,getD_eq_getElem?_getD→aN,length_take→aO,mem_cons_of_mem→aP,getElem_of_mem→aQ,map_append→aS,length_nil→aT,mem_cons_self→aU,take_of_length_le→aY,not_mem_nil→aZ,map_cons→bC,mem_cons→bF,cons_append→bI,nil_append→bJ,set_cons_succ→bS,foldl_cons→cA,replicate→cC,getElem_map→cH,all_eq_true→cJ,map_nil→cM,length_set→cQ
open Go.RowKit.Below renaming refl→aC,heap_setCell→bV
open Go.World renaming alloc_heap_new→aH,ownsRow_nil→bE,frozen?→bN,cell?_alloc_lt→bO,setCell→cN
open Go.Lib renaming alloc_old→aR,byteCells→bK
open Bool renaming and_eq_true→aV
open Go.Value renaming ownBlock→cO
open Go.IntWalk renaming i64_in→aX
open Go.Proofs.Tryz renaming underlying3→bG,underlying4→bQ
open Go.ByteArray renaming toList_eq→cK
open Go.Value renaming int→cS
open Go.Value renaming slice→cT
open Go.Value renaming string→cU
open Go.Value renaming bool→cV
open Go.Value renaming pointer→cW
open Go.Value renaming agg→cX
open Go.Obj renaming cells→cY
open Go.Ending renaming returned→cZ
open Go.IntKind renaming i64→dA
namespace Go.Proofs.YtfbmaffacikgbaaGreat
variable {w W w' w1 wr w2 w0 W':World} {B r k ns i base size d bm co pg b:Nat} {v v1 v0 v2 v3 v4 v5 v6 v7 v9 v':Value} {e:TypeId} {chg:List TypeId} {xs:List Value} {l:List Int} {a:Act} {P:Program} {p pc pd ps:Option Addr} {bs:List Nat} {L:List (List Int)} {cs:Array Value} {s:ByteArray} {x:Int}
section
namespace Ty
abbrev Lc:=Bool×Nat
def mK (g:Nat×Nat):Nat×Nat:=if g.1<4 then(g.1+g.1%2,g.2)else(g.1,g.2+g.2%2)
def gY (g:Nat×Nat):Lc×(Nat×Nat):=if g.1<4 then((false,g.1),(g.1+1,g.2))else((true,g.2),(g.1,g.2+1))
def kJ:Nat→Nat×Nat→List Lc×(Nat×Nat)
 |0,g=>([],g)
 |n+1,g=>((kJ n g).1++[(gY (kJ n g).2).1],(gY (kJ n g).2).2)
def Ny (t:T) (g:Nat×Nat):Nat×Nat:=if Yw t then mK g else g
def vS (t:T) (g:Nat×Nat):Nat×Nat:=if t.kind=2∧4<(Ny t g).1+dQ t then mK (4,(Ny t g).2)else Ny t g
def iN (t:T) (g:Nat×Nat):(List Lc×Bool)×(Nat×Nat):=
 if 4<dQ t then(([(gY g).1],true),(gY g).2)else(((kJ (dQ t) (vS t g)).1,false),(kJ (dQ t) (vS t g)).2)
def nK (s:List (List Lc×Bool)×(Nat×Nat)) (p:T):List (List Lc×Bool)×(Nat×Nat):=(s.1++[(iN p s.2).1],(iN p s.2).2)
def oW (l:List T) (g:Nat×Nat):List (List Lc×Bool)×(Nat×Nat):=l.foldl nK ([],g)
theorem oq (l:List T) (p:T) (g:Nat×Nat):oW (l++[p]) g=nK (oW l g) p:=by unfold oW;rw[List.foldl_append];rfl
structure Pl where
 result:Int
 count:Int
 params:List (List Lc×Bool)
 many:Nat
 area:Nat
 extra:Nat
def mS (t:T):Int×(Nat×Nat):=if 2<mH t then(0,(1,0))else(-1,(0,0))
def iZ (t:T):Int×(Nat×Nat):=if t.many then(((mS t).2.1:Int),((mS t).2.1+1,0))else(-1,(mS t).2)
def lP (t:T):List (List Lc×Bool)×(Nat×Nat):=oW (dT t) (iZ t).2
def pQ (t:T):Nat:=if t.many then(lP t).2.2+(lP t).2.2%2 else(lP t).2.2
def dC (t:T):Pl:=⟨(mS t).1,(iZ t).1,(lP t).1,mH t,pQ t+pQ t%2,if t.many then pQ t else 0⟩
def mO (b:Nat) (g:Nat×Nat):Prop:=g.1≤4∧g.2≤b
theorem Ff {g:Nat×Nat} (h:mO b g):mO (b+1) (gY g).2:=by unfold gY mO at*;split<;>simp<;>omega
theorem Qw {g:Nat×Nat} (h:mO b g):mO (b+1) (mK g):=by unfold mK mO at*;split<;>simp<;>omega
theorem Ku {b:Nat} {g:Nat×Nat} (h:mO b g):∀n,mO (b+n) (kJ n g).2
 |0=>h
 |n+1=>Ff (Ku h n)
theorem Ub {g:Nat×Nat} (t:T) (h:mO b g):mO (b+1) (Ny t g):=by unfold Ny;split;(·exact Qw h);(·exact⟨h.1,by have:=h.2;omega⟩)
theorem Kt {g:Nat×Nat} (t:T) (h:mO b g):mO (b+2) (vS t g):=by have h1:=Ub t h;unfold vS;split;(·exact Qw (b:=b+1) ⟨aA _,h1.2⟩);(·exact⟨h1.1,by have:=h1.2;omega⟩)
theorem Kv {g:Nat×Nat} (t:T) (h:mO b g):mO (b+6) (iN t g).2:=by unfold iN;split;(·exact⟨(Ff h).1,by have:=(Ff h).2;simp at this⊢;omega⟩);(·have h1:=Ku (Kt t h) (dQ t);exact⟨h1.1,by have:=h1.2;simp at this⊢;omega⟩)
theorem F0 (l:List T):∀(n:Nat) (s:List (List Lc×Bool)×(Nat×Nat)),mO n s.2→mO (n+6*l.length) (l.foldl nK s).2:=by
 induction l with
  |nil=>intro n s h;exact h
  |cons p l ih=>
   intro n s h
   have:=ih (n+6) (nK s p) (Kv p h)
   rw[cA]
   refine⟨this.1,?_⟩
   have:=this.2
   rw[aM]
   omega
theorem Kx (l:List T) {g:Nat×Nat} (h:mO 0 g):mO (6*l.length) (oW l g).2:=by have:=F0 l 0 ([],g) h;rwa[Nat.zero_add]at this
end Ty
namespace Ty
def jD (o:Ord) (i:Nat):List Int:=if o.op=12 then []else if o.op=9 then [o.n]else if o.op=10 then [(i:Int)+1,o.n]else [(i:Int)+1]
inductive Live (code:List Ord):Nat→Int→Prop where
 |read (i:Nat) (r:Int) (o:Ord):code[i]? =some o→r∈o.s→Live code i r
 |back (i k:Nat) (r:Int) (o:Ord):code[i]? =some o→(k:Int)∈jD o i→Live code k r→r∉o.d→Live code i r
structure WS where
 L:List (List Int)
 work:List (Int×Nat)
def kK (r:Int) (a:Nat) (s:WS):WS:=if(s.L.getD a []).contains r then s else⟨s.L.set a (s.L.getD a []++[r]),s.work++[(r,a)]⟩
def WS.cnt (s:WS):Nat:=(s.L.map List.length).sum
def Cb (regs:Int) (r:Int):Prop:=0≤r∧r<regs
structure LvInv (code:List Ord) (regs:Int) (E:Nat→Int→Nat→Prop) (s:WS):Prop where
 len:s.L.length=code.length
 sound:∀i r,r∈s.L.getD i []→Live code i r
 range:∀i r,r∈s.L.getD i []→Cb regs r
 nodup:∀i,(s.L.getD i []).Nodup
 work:∀x∈s.work,x.2<code.length∧x.1∈s.L.getD x.2 []
 closed:∀a r,r∈s.L.getD a []→(r,a)∈s.work∨∀i o,code[i]? =some o→(a:Int)∈jD o i→r∉o.d→r∈s.L.getD i []∨E a r i
theorem lS {l:List (List Int)} {a:Nat} {x:List Int} (ha:a<l.length) (i:Nat):(l.set a x).getD i []=if i=a then x else l.getD i []:=by rw[aN,List.getElem?_set];by_cases h:a=i;(·subst h;simp[ha]);(·rw[if_neg h,if_neg (fun e=>h e.symm),aN])
theorem uM {r:Int} {a:Nat} {s:WS} (ha:a<s.L.length) {q:Int} (h:q∈s.L.getD i []):q∈(kK r a s).L.getD i []:=by unfold kK;split;(·exact h);(·show q∈(s.L.set a _).getD i [];rw[lS ha];split;(·rename_i e;subst e;exact List.mem_append_left _ h);(·exact h))
theorem Fi {r:Int} {a:Nat} {s:WS} (ha:a<s.L.length):r∈(kK r a s).L.getD a []:=by unfold kK;split;(·rename_i h;simpa using h);(·show r∈(s.L.set a _).getD a [];rw[lS ha,if_pos rfl];simp)
theorem Ly {r:Int} {a:Nat} {s:WS} (ha:a<s.L.length) {q:Int} (h:q∈(kK r a s).L.getD i []):q∈s.L.getD i []∨(q=r∧i=a):=by unfold kK at h;split at h;(·exact .inl h);(·have h:q∈(s.L.set a _).getD i []:=h;rw[lS ha]at h;split at h;(·rename_i e;rcases List.mem_append.1 h with h|h;(·subst e;exact .inl h);(·exact .inr ⟨by simpa using h,e⟩));(·exact .inl h))
theorem LvInv.back {code:List Ord} {regs:Int} {E:Nat→Int→Nat→Prop} {s:WS} (h:LvInv code regs E s) {r:Int} {a:Nat} (ha:a<code.length) (hl:Live code a r) (hr:Cb regs r):LvInv code regs E (kK r a s):=by(have Vi:a<s.L.length:=by rw[h.len];exact ha);(have hw:∀x,x∈s.work→x∈(kK r a s).work:=by intro x hx;unfold kK;split;(·exact hx);(·exact List.mem_append_left _ hx));refine⟨?_,?_,?_,?_,?_,?_⟩;(·unfold kK;split;(·exact h.len);(·show(s.L.set a _).length=_;rw[cQ];exact h.len));(·intro i q hq;rcases Ly Vi hq with hq|⟨rfl,rfl⟩;(·exact h.sound i q hq);(·exact hl));(·intro i q hq;rcases Ly Vi hq with hq|⟨rfl,rfl⟩;(·exact h.range i q hq);(·exact hr));(·intro i;unfold kK;split;(·exact h.nodup i);(·rename_i hn;show((s.L.set a _).getD i []).Nodup;rw[lS Vi];split;(·rw[List.nodup_append];refine⟨h.nodup a,by simp,fun x hx y hy e=>hn ?_⟩;simp only[aK]at hy;subst hy;rw[←e];simpa using hx);(·exact h.nodup i)));(·intro x hx;(have:x∈s.work∨x=(r,a):=by unfold kK at hx;split at hx;(·exact .inl hx);(·rcases List.mem_append.1 hx with hx|hx;(·exact .inl hx);(·exact .inr (by simpa using hx))));rcases this with hx|rfl;(·exact⟨(h.work x hx).1,uM Vi (h.work x hx).2⟩);(·exact⟨ha,Fi Vi⟩));(·intro a' q hq;rcases Ly Vi hq with hq|⟨rfl,rfl⟩;(·rcases h.closed a' q hq with hx|hx;(·exact .inl (hw _ hx));(·exact .inr fun i o h1 h2 h3=>(hx i o h1 h2 h3).imp (uM Vi) id));(·by_cases hc:(s.L.getD a' []).contains q=true;(·rcases h.closed a' q (by simpa using hc)with hx|hx;(·exact .inl (hw _ hx));(·exact .inr fun i o h1 h2 h3=>(hx i o h1 h2 h3).imp (uM Vi) id));(·left;unfold kK;rw[if_neg hc];exact List.mem_append_right _ Si)))
def WS.left (n regs:Nat) (s:WS):Nat:=2*(n*regs-s.cnt)+s.work.length
theorem GY (l:List (List Int)) (a:Nat) (ha:a<l.length) (r:Int):((l.set a (l.getD a []++[r])).map List.length).sum=(l.map List.length).sum+1:=by
 induction l generalizing a with
  |nil=>simp at ha
  |cons x l ih=>
   cases a with
   |zero=>simp;omega
   |succ a=>
    have:=ih a (by simpa using ha)
    simp only[bS,bC,List.sum_cons,List.getD_cons_succ]at this⊢
    omega
theorem Jq:∀(n:Nat) (l:List Nat),l.Nodup→(∀x∈l,x<n)→l.length≤n
 |0,[],_,_=>aA _
 |0,x::l,_,h=>absurd (h x aU) Om
 |n+1,l,hn,h=>by
  by_cases hm:n∈l
  ·have h1:=Jq n (l.erase n) (hn.erase n) fun x hx=>by
    have:=(List.Nodup.mem_erase_iff hn).1 hx
    have:=h x this.2
    omega
   rw[List.length_erase_of_mem hm]at h1
   omega
  ·have:=Jq n l hn fun x hx=>by
    have:=h x hx
    have:x≠n:=fun e=>hm (e▸hx)
    omega
   omega
theorem nodup_range {regs:Nat} (hn:l.Nodup) (hr:∀r∈l,Cb regs r):l.length≤regs:=by(have h1:(l.map Int.toNat).Nodup:=by rw[List.nodup_iff_pairwise_ne,List.pairwise_map];refine(List.nodup_iff_pairwise_ne.1 hn).imp_of_mem fun{a b} ha hb fM e=>fM ?_;have:=(hr a ha).1;have:=(hr b hb).1;omega);(have:=Jq regs _ h1 fun x hx=>by obtain⟨r,fK,rfl⟩:=List.mem_map.1 hx;have:=hr r fK;unfold Cb at this;omega);simpa using this
theorem XB {code:List Ord} {regs:Nat} {E:Nat→Int→Nat→Prop} {s:WS} (h:LvInv code regs E s):s.cnt≤code.length*regs:=by
 have:∀l:List (List Int),(∀i,(l.getD i []).length≤regs)→(l.map List.length).sum≤l.length*regs:=by
  intro l
  induction l with
  |nil=>intro _;simp
  |cons x l ih=>
   intro hl
   have h0:=hl 0
   have:=ih fun i=>by have:=hl (i+1);simpa using this
   simp only[bC,List.sum_cons,aM,List.getD_cons_zero]at h0⊢
   rw[Nat.succ_mul]
   omega
 rw[←h.len];exact this s.L fun i=>nodup_range (h.nodup i) fun r hr=>h.range i r hr
theorem Pz {code:List Ord} {regs:Nat} {E:Nat→Int→Nat→Prop} {s:WS} (h:LvInv code regs E s) {r:Int} {a:Nat} (ha:a<code.length) (hl:Live code a r) (hr:Cb regs r):(kK r a s).left code.length regs≤s.left code.length regs:=by have h2:=XB (h.back ha hl hr);unfold kK at h2⊢;split;(·exact aA _);(·rename_i hc;rw[if_neg hc]at h2;unfold WS.left WS.cnt at*;simp only at h2⊢;rw[GY _ _ (by rw[h.len];exact ha)]at h2⊢;rw[aD];simp;omega)
theorem LvInv.all {code:List Ord} {regs:Int} {s:WS} (h:LvInv code regs (fun _ _ _=>False) s) (hw:s.work=[]) (hr:∀i o,code[i]? =some o→∀r∈o.s,r∈s.L.getD i []) (sL:∀i o,code[i]? =some o→∀k∈jD o i,0≤k∧k<code.length):∀i r,r∈s.L.getD i []↔Live code i r:=by
 intro i r;refine⟨h.sound i r,fun hl=>?_⟩
 induction hl with
  |read i r o ho TQ=>exact hr i o ho r TQ
  |back i k r o ho hk _ hd ih=>
   rcases h.closed k r ih with hx|hx
   ·rw[hw]at hx;cases hx
   ·rcases hx i o ho hk hd with hx|hx
    ·exact hx
    ·exact hx.elim
theorem LvInv.pop {code:List Ord} {regs:Int} {work:List (Int×Nat)} {r0:Int} {a0:Nat} (h:LvInv code regs (fun _ _ _=>False) ⟨L,work++[(r0,a0)]⟩) {F:List Nat} (hF:∀i o,code[i]? =some o→(a0:Int)∈jD o i→i∈F):
 LvInv code regs (fun a r i=>a=a0∧r=r0∧i∈F) ⟨L,work⟩:=by refine⟨h.len,h.sound,h.range,h.nodup,fun x hx=>h.work x (List.mem_append_left _ hx),fun a r hr=>?_⟩;rcases h.closed a r hr with hx|hx;(·rcases List.mem_append.1 hx with hx|hx;(·exact .inl hx);(·simp only[aK,Prod.mk.injEq]at hx;obtain⟨rfl,rfl⟩:=hx;exact .inr fun i o h1 h2 h3=>.inr ⟨rfl,rfl,hF i o h1 h2⟩));(·exact .inr fun i o h1 h2 h3=>(hx i o h1 h2 h3).imp id False.elim)
theorem LvInv.step {code:List Ord} {regs:Int} {E E':Nat→Int→Nat→Prop} {s:WS} (h:LvInv code regs E s) (he:∀a r i o,code[i]? =some o→r∉o.d→E a r i→r∈s.L.getD i []∨E' a r i):LvInv code regs E' s:=
 ⟨h.len,h.sound,h.range,h.nodup,h.work,fun a r hr=>(h.closed a r hr).imp id fun hx i o h1 h2 h3=>(hx i o h1 h2 h3).elim .inl fun e=>he a r i o h1 h3 e⟩
def mC (code:List Ord) (i:Nat):List Int:=match code[i]? with|some o=>jD o i|none=>[]
theorem Bf {code:List Ord} {o:Ord} (h:code[i]? =some o):mC code i=jD o i:=by unfold mC;rw[h]
def tK (i:Nat) (F:List (List Int)) (k:Int):List (List Int):=F.set k.toNat (F.getD k.toNat []++[(i:Int)])
def iE (code:List Ord):Nat→List (List Int)
 |0=>cC code.length []
 |i+1=>(mC code i).foldl (tK i) (iE code i)
theorem Mc (i:Nat) (F:List (List Int)) (k:Int):(tK i F k).length=F.length:=cQ
theorem F8 (i:Nat) (l:List Int):∀F,(l.foldl (tK i) F).length=F.length:=by
 induction l with
  |nil=>intro F;rfl
  |cons x l ih=>intro F;rw[cA,ih,Mc]
theorem Lf (code:List Ord):∀i,(iE code i).length=code.length
 |0=>List.length_replicate
 |i+1=>by rw[iE,F8,Lf code i]
theorem DB {F:List (List Int)} {k:Int} (h0:0≤k) (hk:k<F.length) (q:Nat) (j:Int):j∈(tK i F k).getD q []↔j∈F.getD q []∨(j=i∧(q:Int)=k):=by unfold tK;rw[lS Om];by_cases e:q=k.toNat;(·subst e;rw[if_pos rfl,List.mem_append,aK];have:((k.toNat:Nat):Int)=k:=Om;simp[this]);(·rw[if_neg e];have:(q:Int)≠k:=Om;simp[this])
theorem F6 {n:Nat} (l:List Int) (hl:∀k∈l,0≤k∧k<n):∀(F:List (List Int)),F.length=n→∀(q:Nat) (j:Int),j∈(l.foldl (tK i) F).getD q []↔j∈F.getD q []∨(j=i∧(q:Int)∈l):=by
 induction l with
  |nil=>intro F _ q j;simp
  |cons x l ih=>
   intro F hF q j
   rw[cA,ih (fun k hk=>hl k (aP _ hk)) _ (by rw[Mc];exact hF),DB (hl x aU).1 (by have:=(hl x aU).2;omega)]
   rw[bF]
   constructor
   ·rintro((h|⟨h1,h2⟩)|⟨h1,h2⟩)
    ·exact .inl h
    ·exact .inr ⟨h1,.inl h2⟩
    ·exact .inr ⟨h1,.inr h2⟩
   ·rintro(h|⟨h1,h2|h2⟩)
    ·exact .inl (.inl h)
    ·exact .inl (.inr ⟨h1,h2⟩)
    ·exact .inr ⟨h1,h2⟩
theorem I9 (i:Nat) (F:List (List Int)) (k:Int) (q:Nat):((tK i F k).getD q []).length≤(F.getD q []).length+1:=by unfold tK;by_cases h:k.toNat<F.length;(·rw[lS h];split;(·rename_i e;subst e;rw[aD];exact aA _);(·omega));(·rw[List.set_eq_of_length_le Om];omega)
theorem Lh (i:Nat) (q:Nat) (l:List Int):∀F,((l.foldl (tK i) F).getD q []).length≤(F.getD q []).length+l.length:=by
 induction l with
  |nil=>intro F;exact aA _
  |cons x l ih=>
   intro F
   have h1:=ih (tK i F x)
   have h2:=I9 i F x q
   rw[cA,aM]
   omega
theorem Qa (o:Ord) (i:Nat):(jD o i).length≤2:=by unfold jD;split;(·simp);(·split;(·simp);(·split<;>simp))
theorem yL (code:List Ord) (q:Nat):∀m,((iE code m).getD q []).length≤2*m
 |0=>by
  rw[iE,aN,List.getElem?_replicate]
  split<;>simp
 |m+1=>by
  have h1:=Lh m q (mC code m) (iE code m)
  have h2:=yL code q m
  have h3:(mC code m).length≤2:=by
   unfold mC
   split
   ·exact Qa _ _
   ·simp
  rw[iE]
  omega
theorem Le {code:List Ord} (sL:∀i o,code[i]? =some o→∀k∈jD o i,0≤k∧k<code.length):∀(m:Nat) (q:Nat) (j:Int),j∈(iE code m).getD q []↔∃i:Nat,i<m∧j=i∧(q:Int)∈mC code i
 |0,q,j=>by
  rw[iE,aN,List.getElem?_replicate]
  constructor
  ·intro h
   split at h<;>simp at h
  ·rintro⟨i,h,_⟩
   omega
 |m+1,q,j=>by
  have hl:∀k∈mC code m,0≤k∧k<code.length:=by
   intro k hk
   unfold mC at hk
   split at hk
   ·rename_i o ho
    exact sL m o ho k hk
   ·cases hk
  rw[iE,F6 _ hl _ (Lf code m),Le sL m q j]
  constructor
  ·rintro(⟨i,h1,h2⟩|⟨h1,h2⟩)
   ·exact⟨i,by omega,h2⟩
   ·exact⟨m,by omega,h1,h2⟩
  ·rintro⟨i,h1,h2,h3⟩
   by_cases e:i=m
   ·subst e;exact .inr ⟨h2,h3⟩
   ·exact .inl ⟨i,by omega,h2,h3⟩
end Ty
end
section
open Go.RowKit
def tL (P:Program) (t e:TypeId) (size:Nat):Prop:=∃(i:TypeInfo) (z:Value),P.underlying t=some (.slice e)∧P.info? e=some i∧i.zero=some z∧i.size=size∧i.bytes≤1000∧z.cells.size=size∧0<size
theorem kP {t:TypeId} {z:Value} {bytes:Nat} (ht:P.underlying t=some (.slice e)) (h:(P.info? e).map (fun i=>(i.zero,i.size,i.bytes))=some (some z,size,bytes)) (hz:z.cells.size=size) (h0:0<size) (hb:bytes≤1000):tL P t e size:=by obtain⟨i,hi,h1,h2,h3⟩:=info_parts h;exact⟨i,z,ht,hi,h1,h2,by omega,hz,h0⟩
structure App (w w':World) (base:Nat) (e:TypeId) (size:Nat) (v v':Value) (n:Nat) (xs kB:List Value):Prop where
 own:w'.ownsRow base e size v' (n+1) (xs++kB)
 grow:w.grownBy w' v.ownBlock
 blk:v'.ownBlock=v.ownBlock∨v'.ownBlock=some w.heap.size
theorem sD {ops:Array Oper} {rest:List Oper} {o:Oper} {Q:Exit→Act→World→Prop} {t:TypeId} (E:tL P t e size) (s x:Operand) (KM:o.guard=none)
 (ho:o.op=.call {callee:=.builtin .append,args:=#[s,x],argTypes:=#[t,t]})
 (base:Nat) (v:Value) (n:Nat) (xs:List Value) (hv:a.eval s=v) (dU:w.ownsRow base e size v n xs)
 (g:Nat) (kB:List Value) (hx:a.eval x=cT (some ⟨g,0,none⟩) 1 1) (hb:w.heap[g]? =some (cY kB.toArray e (0,0))) (hl:kB.length=size) (h1:∀u∈kB,u.oneCell'=true)
 (hn:n≤1000000) (oH:base≤w.heap.size)
 (h:∀v' w',App w w' base e size v v' n xs kB→wpList P ops Q rest (a.put o.dst v') w'):wpList P ops Q (o::rest) a w:=by
 obtain⟨i,z,ht,hi,hz,hs,Tu,Y4,h0⟩:=E;have Qj:(n+1)*i.bytes≤140737488355328:=aG (Nat.mul_le_mul (by omega:n+1≤1000001) Tu) De
 exact oR KM s x t t ho base e i z size i.bytes ht hi hz hs rfl Y4 h0 v n xs hv dU _ 1 kB hx (Src.ofSlice _ ht _ 1 1 _ Om (lT hb rfl) h1) (by unfold maxLen;omega) Qj oH
  fun v' w' h2 h3 h4=>h v' w' ⟨h2,h3,h4⟩
structure EFr (B:Nat) (chg:List TypeId) (w w':World):Prop where
 os:w'.os=w.os
 tape:w'.tape=w.tape
 output:w'.output=w.output
 size:w.heap.size≤w'.heap.size
 block:∀b,b<w.heap.size→(b<B∨∀cs t fz,w.heap[b]? =some (cY cs t fz)→t∉chg)→w'.heap[b]? =w.heap[b]?
theorem EFr.refl (B:Nat) (chg:List TypeId) (w:World):EFr B chg w w:=⟨rfl,rfl,rfl,aA _,fun _ _ _=>rfl⟩
theorem EFr.trans (h:EFr B chg w w1) (g:EFr B chg w1 w2):EFr B chg w w2:=
 ⟨g.os.trans h.os,g.tape.trans h.tape,g.output.trans h.output,aG h.size g.size,fun b hb hc=>by
  have e:=h.block b hb hc
  rw[g.block b (aF hb h.size) (hc.imp id fun hc=>by rw[e];exact hc),e]⟩
theorem EFr.mono {chg':List TypeId} (h:EFr B chg w w1) (hs:∀t∈chg,t∈chg'):EFr B chg' w w1:=
 ⟨h.os,h.tape,h.output,h.size,fun b hb hc=>h.block b hb (hc.imp id fun hc cs t fz e ht=>hc cs t fz e (hs _ ht))⟩
theorem EFr.of (h:dG w w1):EFr B chg w w1:=⟨h.os,h.tape,h.output,h.size,fun b hb _=>h.block b hb⟩
theorem EFr.below (h:EFr B chg w w1) (hB:B≤w.heap.size):Below B w w1:=⟨h.os,h.tape,h.output,h.size,fun b hb=>h.block b (aF hb hB) (.inl hb)⟩
theorem EFr.grown {r:Option Nat} (h:w.grownBy w1 r) (hr:∀g,r=some g→B≤g∧∃cs t fz,w.heap[g]? =some (cY cs t fz)∧t∈chg):EFr B chg w w1:=
 ⟨h.os,h.tape,h.output,h.size,fun b hb hc=>h.block b hb fun e=>by
  obtain⟨h1,cs,t,fz,h2,h3⟩:=hr b e.symm
  rcases hc with hc|hc
  ·omega
  ·exact hc cs t fz h2 h3⟩
theorem EFr.obj (h:EFr B chg w w1) {t:TypeId} {fz:Nat×Nat} (hb:w.heap[b]? =some (cY cs t fz)) (ht:t∉chg):w1.heap[b]? =some (cY cs t fz):=
 (h.block b (dB hb) (.inr fun cs' t' fz' e=>by rw[hb]at e;injection e with e;injection e with _ e2 _;rw[←e2];exact ht)).trans hb
theorem EFr.low (h:EFr B chg w w1) {o:Obj} (hb:w.heap[b]? =some o) (hB:b<B):w1.heap[b]? =some o:=(h.block b (dB hb) (.inl hB)).trans hb
theorem dR {n:Nat} (h:w.ownsRow base e size v n xs) (hk:∀(g:Nat) (cs:Array Value),w.heap[g]? =some (Obj.cells cs e (0,0))→w'.heap[g]? =w.heap[g]?):w'.ownsRow base e size v n xs:=by refine⟨h.1,h.2.imp id ?_⟩;rintro⟨g,gN,mU,h1,h2,h3,h4⟩;exact⟨g,gN,mU,h1,h2,(hk g mU h3).trans h3,h4⟩
theorem EFr.row (h:EFr B chg w w1) {n:Nat} (ho:w.ownsRow base e size v n xs) (he:e∉chg):w1.ownsRow base e size v n xs:=
 dR ho fun g cs hg=>(h.obj hg he).trans hg.symm
theorem EFr.map (h:EFr B chg w w1) {o:Obj} (hb:w.heap[b]? =some o) (ho:∀cs t fz,o≠ cY cs t fz):w1.heap[b]? =some o:=
 (h.block b (dB hb) (.inr fun cs' t' fz' e=>by rw[hb]at e;injection e with e;exact absurd e (ho _ _ _))).trans hb
theorem lC {n:Nat} (h:w.ownsRow base e size v n xs):∀g,v.ownBlock=some g→base≤g∧∃cs fz,w.heap[g]? =some (cY cs e fz):=by intro g hg;rcases h.2 with⟨rfl,_⟩|⟨g',gN,mU,rfl,hb,hh,_⟩;(·simp[cO]at hg);(·(obtain rfl:g'=g:=by simpa[cO]using hg);exact⟨hb,_,_,hh⟩)
theorem App.fr {n:Nat} {kB:List Value} (h:App w w' base e size v v' n xs kB) (h0:w.ownsRow base e size v n xs) (hB:B≤base) (he:e∈chg):EFr B chg w w':=
 EFr.grown h.grow fun g hg=>by
  obtain⟨h1,cs,fz,h2⟩:=lC h0 g hg
  exact⟨aG hB h1,cs,e,fz,h2,he⟩
theorem eN {n:Nat} (h:w.ownsRow base e size v n xs) (hn:0<n):∃g gN,v=cT (some ⟨g,0,none⟩) n gN∧n≤gN∧gN≤maxLen∧base≤g∧g<w.heap.size∧∀j u,xs[j]? =some u→w.cell? ⟨g,j,none⟩=some u:=by rcases h.2 with⟨rfl,h0⟩|⟨g,gN,mU,rfl,hb,hh,h1,h2,_,_⟩;(·omega);(·refine⟨g,gN,rfl,h1,h2,hb,dB hh,fun j u hu=>?_⟩;have:=h.cells (g:=g) rfl j u hu;rwa[Fj]at this)
theorem eF {t:TypeId} {fz:Nat×Nat} (h:w.heap[b]? =some (cY cs t fz)) (i:Nat) (v:Value):(w.setCell ⟨b,i,none⟩ v).heap[b]? =some (cY (cs.setIfInBounds i v) t fz):=by simp[cN,Array.getElem?_modify,h]
theorem EFr.set {t:TypeId} {fz:Nat×Nat} (h:w.heap[b]? =some (cY cs t fz)) (hB:B≤b) (ht:t∈chg) (i:Nat) (v:Value):EFr B chg w (w.setCell ⟨b,i,none⟩ v):=
 ⟨rfl,rfl,rfl,by simp[cN],fun k hk hc=>bV _ _ _ k (fun e=>by
  have e:k=b:=e
  subst e
  rcases hc with hc|hc
  ·omega
  ·exact hc cs t fz h ht)⟩
theorem EFr.alloc (h:EFr B chg w w1) (o:Obj):EFr B chg w (w1.alloc o):=h.trans (.of ((aC _ _).alloc (aA _) _))
theorem EFr.drew (h:EFr B chg w w1):EFr B chg w w1.drew:=⟨h.os,h.tape,h.output,h.size,h.block⟩
theorem EFr.drewN (h:EFr B chg w w1) (n:Nat):EFr B chg w (w1.drewN n):=⟨h.os,h.tape,h.output,h.size,h.block⟩
theorem EFr.lower {B':Nat} (h:EFr B chg w w1) (hB:B'≤B):EFr B' chg w w1:=⟨h.os,h.tape,h.output,h.size,fun b hb hc=>h.block b hb (hc.imp (fun h=>aF h hB) id)⟩
theorem dI {s n:Nat} (h:w.ownsRow B e s v n xs):∃p k,v=cT p n k∧n≤k∧k≤maxLen:=by rcases h.2 with⟨rfl,rfl,_⟩|⟨g,gN,mU,rfl,_,_,h1,h2,_⟩;(·exact⟨none,0,rfl,aA _,by unfold maxLen;omega⟩);(·exact⟨_,_,rfl,h1,h2⟩)
theorem Xc {n:Nat} (xs:List Value) (hb:base≤w.heap.size) (hl:xs.length=n*size) (hn:n≤1000000):(w.alloc (cY xs.toArray e)).ownsRow base e size (cT (some ⟨w.heap.size,0,none⟩) n n) n xs:=
 ⟨hl,.inr ⟨_,_,_,rfl,hb,heap_alloc_new w _,aA _,by unfold maxLen;omega,by simpa using hl,by simp[←hl]⟩⟩
theorem Jl {n H:Nat} (xs:List Value) (hH:w.heap.size=H) (hb:base≤H) (hl:xs.length=n*size) (hn:n≤1000000):(w.alloc (cY xs.toArray e)).ownsRow base e size (cT (some ⟨H,0,none⟩) n n) n xs:=by subst hH;exact Xc xs hb hl hn
theorem Ka {ops:Array Oper} {rest:List Oper} {o:Oper} {Q:Exit→Act→World→Prop} {t:TypeId} (E:tL P t e size) (l c:Operand) (KM:o.guard=none)
 (ho:o.op=Op.makeSlice t l c) (base n:Nat) (hl:a.eval l=cS dA (n:Nat)) (hc:a.eval c=cS dA (n:Nat)) (hn:n≤1000000) (hb:base≤w.heap.size)
 (hK:∀(w':World) (z:Value),(∃i,P.info? e=some i∧i.zero=some z)→w'.ownsRow base e size (.slice (some ⟨w.heap.size,0,none⟩) n n) n (madeCells z.cells (n*size)).toList→w.grownBy w' none→wpList P ops Q rest (a.put o.dst (.slice (some ⟨w.heap.size,0,none⟩) n n)) w'):
 wpList P ops Q (o::rest) a w:=by obtain⟨i,z,ht,hi,hz,hs,Tu,Y4,h0⟩:=E;exact wpList_make_full w KM l c t ho base e i z size ht hi hz hs dA dA n n n hl hc rfl rfl (aG (Nat.mul_le_mul Tu hn) De) (by unfold maxLen;omega) hb fun w' h1 h2=>hK w' z ⟨i,hi,hz⟩ h1 h2
structure EFc (B:Nat) (chg:List TypeId) (w w':World):Prop where
 os:w'.os=w.os
 tape:w'.tape=w.tape
 output:w'.output=w.output
 size:w.heap.size≤w'.heap.size
 block:∀b,b<w.heap.size→(b<B∨∃cs t fz,w.heap[b]? =some (cY cs t fz)∧t∉chg)→w'.heap[b]? =w.heap[b]?
theorem EFc.refl (B:Nat) (chg:List TypeId) (w:World):EFc B chg w w:=⟨rfl,rfl,rfl,aA _,fun _ _ _=>rfl⟩
theorem EFc.trans (h:EFc B chg w w1) (g:EFc B chg w1 w2):EFc B chg w w2:=
 ⟨g.os.trans h.os,g.tape.trans h.tape,g.output.trans h.output,aG h.size g.size,fun b hb hc=>by
  have e:=h.block b hb hc
  rw[g.block b (aF hb h.size) (hc.imp id fun hc=>by rw[e];exact hc),e]⟩
theorem EFr.c (h:EFr B chg w w1):EFc B chg w w1:=
 ⟨h.os,h.tape,h.output,h.size,fun b hb hc=>h.block b hb (hc.imp id fun⟨cs,t,fz,e,ht⟩ cs' t' fz' e'=>by rw[e]at e';injection e' with e';injection e' with _ e' _;rw[←e'];exact ht)⟩
theorem EFc.mono {chg':List TypeId} (h:EFc B chg w w1) (hs:∀t∈chg,t∈chg'):EFc B chg' w w1:=
 ⟨h.os,h.tape,h.output,h.size,fun b hb hc=>h.block b hb (hc.imp id fun⟨cs,t,fz,e,ht⟩=>⟨cs,t,fz,e,fun h=>ht (hs _ h)⟩)⟩
theorem EFc.below (h:EFc B chg w w1) (hB:B≤w.heap.size):Below B w w1:=⟨h.os,h.tape,h.output,h.size,fun b hb=>h.block b (aF hb hB) (.inl hb)⟩
theorem EFc.obj (h:EFc B chg w w1) {t:TypeId} {fz:Nat×Nat} (hb:w.heap[b]? =some (cY cs t fz)) (ht:t∉chg):w1.heap[b]? =some (cY cs t fz):=
 (h.block b (dB hb) (.inr ⟨_,_,_,hb,ht⟩)).trans hb
theorem EFc.row (h:EFc B chg w w1) {n:Nat} (ho:w.ownsRow base e size v n xs) (he:e∉chg):w1.ownsRow base e size v n xs:=
 dR ho fun g cs hg=>(h.obj hg he).trans hg.symm
theorem EFc.map {g:Nat} (h:w.grownBy w1 (some g)) (hg:∀(cs:Array Value) (t:TypeId) (fz:Nat×Nat),w.heap[g]?≠some (Obj.cells cs t fz)) (hB:B≤g):EFc B chg w w1:=
 ⟨h.os,h.tape,h.output,h.size,fun b hb hc=>h.block b hb fun e=>by
  injection e with e
  subst e
  rcases hc with hc|⟨cs,t,fz,e,_⟩
  ·omega
  ·exact hg _ _ _ e⟩
end
section
open Go.RowKit Ob
def Cv (l:List Int):DataW Unit:=l.foldl (fun D k=>D.put (.int .i64 k) (.lit (.bool true))) (.map [])
theorem tY (l:List Int) (k:Int):Cv (l++[k])=(Cv l).put (.int .i64 k) (.lit (.bool true)):=by unfold Cv;rw[List.foldl_append];rfl
theorem C3 (l:List Int) (D:DataW Unit) (hD:Maps.IsMap D) (k:Int):
 Maps.IsMap (l.foldl (fun D k=>D.put (.int .i64 k) (.lit (.bool true))) D)∧
 (l.foldl (fun D k=>D.put (.int .i64 k) (.lit (.bool true))) D).atKey (.int .i64 k) (.lit (.bool false))=if l.contains k then .lit (.bool true)else D.atKey (.int .i64 k) (.lit (.bool false)):=by
 induction l generalizing D with
  |nil=>exact⟨hD,rfl⟩
  |cons x l ih=>
   obtain⟨h1,h2⟩:=ih (D.put (.int .i64 x) (.lit (.bool true))) (hD.put _ _)
   refine⟨h1,?_⟩
   rw[cA,h2,List.contains_cons]
   by_cases hl:l.contains k=true
   ·rw[if_pos hl,if_pos (by rw[hl,Bool.or_true])]
   ·rw[if_neg hl]
    by_cases e:k=x
    ·subst e
     rw[Maps.atKey_put_same hD (by trivial),if_pos Si]
    ·rw[Maps.atKey_put_other (by intro h;injection h with _ h;exact e h),if_neg (by simp[e]at hl⊢;exact hl)]
theorem JF (l:List Int) (k:Int):(Cv l).atKey (.int .i64 k) (.lit (.bool false))=.lit (.bool (l.contains k)):=by obtain⟨_,h⟩:=C3 l (.map []) Maps.isMap_empty k;unfold Cv;rw[h];exact V396
def fR (w:World) (b n:Nat) (l:List Int):Prop:=w.ownsMap U 3 (plainElem (H:=Unit) U 4) b n (Cv l)
theorem Rx {k:Int} (h:lJ k):(Lit.int .i64 k).wf=true:=by obtain⟨h1,h2⟩:=h;have e1:IntKind.i64.min=-9223372036854775808:=De;have e2:IntKind.i64.max=9223372036854775807:=De;show(decide (IntKind.i64.min≤k)&&decide (k≤IntKind.i64.max))=true;rw[e1,e2,decide_eq_true h1,decide_eq_true h2];rfl
theorem tZ {n:Nat} (h:fR w b n l) {k:Int} (hk:lJ k):
 (Instr.lookup 144 (.map (some b)) (cS dA k) false).run U w=.ok (cV (l.contains k)) w:=by
 obtain⟨v,ps,Kk,hv⟩:=World.ownsMap.lookup h (Maps.int_keyed bG) Tryz.underlying144 (z:=.bool false) Kr (plainElem_bool bQ false)
  (Maps.keyOf_int_mk bG (Rx hk))
 rw[JF]at hv;rw[Kk,nF bQ hv]
theorem Es (w:World):fR (w.alloc (.map #[] 0)) w.heap.size 0 []:=World.ownsMap_made w U 3 _
end
section
open Go.RowKit Go.Shelf Ob Ty
attribute [local go_sem] Oper.semAt_some
def SizeOk:Nat→T→Prop
 |0,t=>t.kind≠3
 |d+1,t=>t.kind=3→t.parts.length≤6∧∀p∈t.parts,fH d p=true
theorem SizeOk.part {t:T} (h:SizeOk (d+1) t) (hk:t.kind=3) {p:T} (hp:p∈t.parts):SizeOk d p∧(eV p).1≤12:=by
 have FH:=(h hk).2 p hp
 cases d with
  |zero=>simp[fH]at FH
  |succ d=>
   have hm:=iL FH
   refine⟨fun h3=>⟨(hm.struct h3).2.2.2.2.1,hm.parts⟩,?_⟩
   by_cases h3:p.kind=3
   ·exact(hm.struct h3).2.2.2.2.2.2.2
   ·by_cases h2:p.kind=2
    ·rw[nB h2];decide
    ·rw[lL h2 h3];decide
def Un (d:Nat):Prop:=∀(t:T) (v:TV) (e:Nat) (w:World),TyAt w e t v→SizeOk d t→
 O U 56 #[fN v t] w fun x w'=>x=cZ (.tuple #[cS dA ((eV t).1:Nat),cV (eV t).2])∧dG w w'
theorem Yx {ps:List T} (hs:∀p∈ps,(eV p).1≤12):∀i,i≤ps.length→(iQ ps i).1≤13*i
 |0,_=>by rw[vU];decide
 |i+1,h=>by
  rw[vV Om]
  have h1:=Yx hs i Om
  have h2:=hs ps[i] (aE Om)
  unfold SR
  simp only
  split<;>omega
theorem Lk {n:Nat} (h:k<n):(List.finRange n).take (k+1)=(List.finRange n).take k++[⟨k,h⟩]:=by rw[aL (by simpa using h)];simp
theorem Dd {n:Nat} (h:k≤n):((List.finRange n).take k).length=k:=by simp;omega
theorem jM (hb:dG w w'):w.grownBy w' none:=⟨hb.os,hb.tape,hb.output,hb.size,fun k hk _=>hb.block k hk⟩
theorem X8 (d n l Bs:Nat) (hn:1≤n) (gO:Un d) (t:T) (v:TV) (e:Nat) (w:World) (ht:TyAt w e t v) (pK:t.kind=3) (uB:SizeOk (d+1) t) (J Jx:List (Fin v.np)→World→Prop)
 (W:World) (hJ:∀s A B,J s A→A.grownBy B none→J s B) (hwW:dG w W)
 (hY:∀qF x W,J qF W→qF.length<v.np→YieldAt Fence.wide (n-1) U l #[cS dA (x.1:Nat),cS dA (jW t.parts x.1:Nat)] W fun e W'=>
  (e=cZ (cV true)∧J (qF++[x]) W'∧Below w.heap.size W W')∨(e=cZ (cV false)∧Jx (qF++[x]) W'))
 (ob:W.heap[Bs]? =some (cY #[cS dA t.kind,cU t.name,cT v.pn v.nn v.kn,cT v.pp v.np v.kp,cV t.many] 45 (0,0))) (h0:J [] W):
 CallsIn Fence.wide n U 128 #[.func (.yield l) #[] #[],cW (some ⟨Bs,0,none⟩)] W fun e W'=>(∃v,e=cZ v)∧
  ((∃ys,ys=List.finRange v.np∧J ys W')∨(∃qF,(∃k,k≤v.np∧qF=(List.finRange v.np).take k)∧Jx qF W')):=by have HT:=Ih ht;have tQ:=Ih gO;have rC:=Ih uB;have HJ:=Ih hJ;have HY:=Ih hY;have HW:=Ih hwW;have HK:=Ih pK;have lB:=Ih ht.in.pl;have mE:=ht.in.pb;(have sL:∀i,i≤v.np→(iQ t.parts i).1≤80:=fun i hi=>by exact V150);have Bp:=Ih sL;have z0:=fV ob;clear ht gO uB hJ hY hwW pK sL ob;refine callsIn_of_wp Tryz.func128 rfl trivial ?_ rfl;simp only[Tryz.ntmps128,List.size_toArray,aM,aT,Nat.reduceAdd,Nat.reduceSub,Array.replicate_succ,Array.replicate_zero,List.push_toArray,List.append_toArray,bJ,bI];gi_wp2;clear z0;obtain⟨pp,pH⟩:=Ex v.pp;rw[←pH];have Gx:=Ih pH;clear pH;gi_loopg[3,11] v.np (fun gk at_ i wr=>∃k:Nat,k≤v.np∧gk=v.np-k∧i=cS dA k∧at_=cS dA ((iQ t.parts k).1:Nat)∧J ((List.finRange v.np).take k) wr∧Below w.heap.size W wr);(case atStart=>exact⟨0,aJ _,rfl,rfl,by rw[vU];rfl,h0,aC _ _⟩);(case round=>obtain⟨k,hk,hgk,rfl,rfl,hJs,Km⟩:=hrel;have HG:=Ih hgk;clear hgk;have GH:=Ih hJs;have HN:=Ih Km;clear hJs Km;by_cases dH:k<v.np;(·(have jS:k<t.parts.length:=by rw[lB.out];exact dH);obtain⟨pt,iD⟩:=Ex (t.parts[k]);have dJ:dG w wr:=HW.trans (HN.mono (aA _));obtain⟨c,co,pI,hc,pv,e',he,dM,fD⟩:=(HT.below dJ).part jS;rw[←iD]at dM fD;(have Ic:pt∈t.parts:=by rw[iD];exact aE jS);obtain⟨vi,AJ⟩:=rC.part HK Ic;obtain⟨sz,gO⟩:=Ex (eV pt);have eO:=fun w' (hb:dG wr w')=>tQ pt pv e' w' (fD.below hb) vi;rw[←gO]at eO AJ;(have mp:iQ t.parts (k+1)=SR (iQ t.parts k) sz:=by rw[vV jS,←iD,gO]);(have iU:jW t.parts k=if sz.2 then(iQ t.parts k).1+(iQ t.parts k).1%2 else(iQ t.parts k).1:=by unfold jW;rw[aB jS,←iD];simp only;rw[←gO]);obtain⟨en,mu⟩:=Ex ((iQ t.parts k).1);(have hen80:en≤80:=by rw[mu];exact Bp k hk);rw[←mu]at iU;have oQ:=Ih mp;have HPLC:=Ih iU;have ZG:=Ih mu;have Z4b:=0;exact V72);(·obtain rfl:k=v.np:=Om;gi_wp2_with fail;go_end0;exact⟨⟨_,rfl⟩,.inl ⟨_,rfl,by have:=GH;rwa[aY Si]at this⟩⟩))
theorem X6 (t:T) (v:TV) (w:World):O U 101 #[fN v t] w fun x w'=>x=cZ (.func (.func 128) #[] #[cW (some ⟨w.heap.size,0,none⟩)])∧w.alloc (cY #[cS dA t.kind,cU t.name,cT v.pn v.nn v.kn,cT v.pp v.np v.kp,cV t.many] 45)=w':=by unfold fN;exact V123
theorem jr (d n Bs:Nat) (hn:1≤n) (gO:Un d) (t:T) (v:TV) (e:Nat) (w w2:World) (ht:TyAt w e t v) (pK:t.kind=3) (uB:SizeOk (d+1) t) (Ew:dG w w2)
 (ob:w2.heap[Bs]? =some (cY #[cS dA t.kind,cU t.name,cT v.pn v.nn v.kn,cT v.pp v.np v.kp,cV t.many] 45 (0,0))):
 SeqStopsK Fence.wide n U 128 #[cW (some ⟨Bs,0,none⟩)] (fun x:Fin v.np=>#[cS dA (x.1:Nat),cS dA (jW t.parts x.1:Nat)]) (Below w.heap.size) (fun ys=>ys=List.finRange v.np) (fun _=>True) v.np w2:=fun l J Jx W hW hJ _ hY h0=>by
 refine(X8 d n l Bs hn gO t v e w ht pK uB J Jx W (fun s A B hs hg=>hJ s A B none hs hg (fun r e=>by cases e)) (Tm Ew hW) hY (Kb hW ob) h0).mono ?_
 rintro x W' ⟨he,⟨ys,cr,hj⟩|⟨qF,_,hj⟩⟩
 ·exact⟨he,.inl ⟨ys,cr,hj⟩⟩
 ·exact⟨he,.inr ⟨qF,trivial,hj⟩⟩
theorem Je (t:T) (v:TV) (w:World) (pK:t.kind≠3):O U 56 #[fN v t] w (RB w (.tuple #[cS dA ((eV t).1:Nat),cV (eV t).2])):=by unfold fN;have h3:(t.kind==3)=false:=beq_eq_false_iff_ne.2 pK;by_cases oE:t.kind=2;(·have h2:(t.kind==2)=true:=beq_iff_eq.2 oE;rw[nB oE];clear oE pK;go_in;go_wp2_with fail;go_ret2;exact V538);(·have h2:(t.kind==2)=false:=beq_eq_false_iff_ne.2 oE;rw[lL oE pK];clear oE pK;go_in;go_wp2_with fail;go_ret2;exact V538)
theorem dE {t:TypeId} (h:W.heap[b]? =some (cY #[v] t (0,0))):W.cell? ⟨b,0,none⟩=some v∧W.frozen? ⟨b,0,none⟩=false:=by constructor<;>simp[World.cell?,bN,h]
theorem Rc (W:World) (v:Value) (t:TypeId):(W.alloc (cY #[v] t)).cell? ⟨W.heap.size,0,none⟩=some v∧(W.alloc (cY #[v] t)).frozen? ⟨W.heap.size,0,none⟩=false:=dE (aH W _)
theorem lV {a:Addr} (o:Obj) (h:W.cell? a=some v):(W.alloc o).cell? a=some v:=cell_kept h (World.grownBy_alloc W o none) (fun r e=>by cases e)
theorem tI {a:Addr} (o:Obj) (h:W.cell? a=some v) (hf:W.frozen? a=false):(W.alloc o).frozen? a=false:=(frozen_kept h (World.grownBy_alloc W o none) (fun r e=>by cases e)).trans hf
theorem Below.frozen1 {a:Addr} (h:dG W W') (hc:W.cell? a=some v) (hf:W.frozen? a=false):W'.frozen? a=false:=(frozen_kept hc (jM h) (fun r e=>by cases e)).trans hf
def La {n:Nat} (ps:List T) (qF:List (Fin n)):Nat:=match qF.getLast? with|some x=>jW ps x.1+(match ps[x.1]? with|some p=>(eV p).1|none=>0)|none=>0
def Gt {n:Nat} (ps:List T) (qF:List (Fin n)):Bool:=qF.any fun x=>match ps[x.1]? with|some p=>(eV p).2|none=>false
theorem Kz {n:Nat} (ps:List T) (qF:List (Fin n)) (x:Fin n) (h:x.1<ps.length):La ps (qF++[x])=jW ps x.1+(eV ps[x.1]).1:=by unfold La;rw[List.getLast?_append,List.getLast?_singleton];simp only[Option.some_or];rw[aB h]
theorem Lb {n:Nat} (ps:List T) (qF:List (Fin n)) (x:Fin n) (h:x.1<ps.length):Gt ps (qF++[x])=(Gt ps qF||(eV ps[x.1]).2):=by unfold Gt;rw[List.any_append];simp only[List.any_cons,List.any_nil,Bool.or_false];rw[aB h]
theorem Qy {n:Nat} (ps:List T) (hl:ps.length=n):∀k,k≤n→La ps ((List.finRange n).take k)=(iQ ps k).1∧Gt ps ((List.finRange n).take k)=(iQ ps k).2
 |0,_=>by rw[vU];exact⟨rfl,rfl⟩
 |k+1,h=>by
  have hk:k<ps.length:=Om
  have hi:=Qy ps hl k Om
  rw[Lk Om,Kz _ _ _ hk,Lb _ _ _ hk,hi.2,vV hk]
  refine⟨?_,rfl⟩
  unfold jW SR
  rw[aB hk]
theorem BX {n:Nat} (ps:List T) (hl:ps.length=n):La ps (List.finRange n)=(iQ ps n).1∧Gt ps (List.finRange n)=(iQ ps n).2:=by have h:=Qy ps hl n (aA _);rwa[aY Si]at h
theorem Wf (d:Nat) (ih:Un d) (t:T) (v:TV) (e:Nat) (w:World) (ht:TyAt w e t v) (uB:SizeOk (d+1) t) (pK:t.kind=3):O U 56 #[fN v t] w (RB w (.tuple #[cS dA ((eV t).1:Nat),cV (eV t).2])):=by
 have h3:(t.kind==3)=true:=beq_iff_eq.2 pK;(have h2:(t.kind==2)=false:=by rw[pK];rfl);have HL:=Ih (fun w'=>X6 t v w');have uP:=Ih (fun w2 Bs Ew ob=>jr d 3 Bs Om ih t v e w w2 ht pK uB Ew ob);unfold fN at HL⊢;have HK3:=Ih pK;have HT:=Ih ht;have rC:=Ih uB;have P2:=Ih ih;(have kN:∀i,i≤v.np→(iQ t.parts i).1≤80:=fun i hi=>by exact V150);have Hu:=Ih kN;have lB:=Ih ht.in.pl;have hST:=vB pK;have BG:=Ra t.parts;rw[ht.in.pl]at BG;rw[←BG]at hST;obtain⟨x,hx⟩:=Ex (eV t);rw[←hx]at hST⊢;have HX:=Ih hST;clear pK ht uB ih kN hST BG hx;refine(callsIn_wide (n:=4)).1 ?_;refine callsIn_of_wp_marks Tryz.func56 rfl trivial ?_ rfl;simp only[Tryz.ntmps56,List.size_toArray,aM,aT,Nat.reduceAdd,Nat.reduceSub,Array.replicate_succ,Array.replicate_zero,List.push_toArray,List.append_toArray,bJ,bI];gi_wp2_with fail;refine⟨trivial,(callsIn_wide.2 (HL _)).mono ?_⟩;rintro x w3 ⟨rfl,rfl⟩;gi_wp2_with fail
 have BS:dG w ((((w.alloc (cY #[cS dA t.kind,cU t.name,cT v.pn v.nn v.kn,cT v.pp v.np v.kp,cV t.many] 45)).alloc (cY #[cS dA 0] 3)).alloc (cY #[cV false] 4)).alloc (cY #[cS dA t.kind,cU t.name,cT v.pn v.nn v.kn,cT v.pp v.np v.kp,cV t.many] 45)):=
  (((((aC _ w).alloc (aA _) _).alloc Si _).alloc Sv _).alloc Sv _)
 have sY:=Rc (w.alloc (cY #[cS dA t.kind,cU t.name,cT v.pn v.nn v.kn,cT v.pp v.np v.kp,cV t.many] 45)) (cS dA 0) 3;have sM:=Rc ((w.alloc (cY #[cS dA t.kind,cU t.name,cT v.pn v.nn v.kn,cT v.pp v.np v.kp,cV t.many] 45)).alloc (cY #[cS dA 0] 3)) (cV false) 4;simp only[World.size_alloc]at sY sM
 refine wpIn_rangeFunc_ownF rfl Om (gf:=128) (lb:=#[cW (some ⟨w.heap.size+1+1+1,0,none⟩)]) rfl trivial (enters_of Tryz.func128 Kr rfl)
  (uP _ (w.heap.size+1+1+1) BS ?_) belowK_t (belowK_b Sv) (aC _ _) (fun _=>rfl)
  (fun qF W=>(W.cell? ⟨w.heap.size+1,0,none⟩=some (cS dA (La t.parts qF:Nat))∧W.frozen? ⟨w.heap.size+1,0,none⟩=false∧W.cell? ⟨w.heap.size+1+1,0,none⟩=some (cV (Gt t.parts qF))∧W.frozen? ⟨w.heap.size+1+1,0,none⟩=false∧
   W.cell? ⟨w.heap.size,3,none⟩=some (cT v.pp v.np v.kp))∧dG w W)
  (fun _ _ _=>False)
  ?own
  (fun _ _ _ _ _ hs _ _=>hs)
  ?start
  (fun x=>{tmps:=#[cX #[cS dA t.kind,cU t.name,cT v.pn v.nn v.kn,cT v.pp v.np v.kp,cV t.many],cW (some ⟨w.heap.size,0,none⟩),cS dA 0,cV false,cW (some ⟨w.heap.size+1,0,none⟩),cW (some ⟨w.heap.size+1+1,0,none⟩),cS dA (x.1:Nat),cS dA (jW t.parts x.1:Nat),undef,undef,cW (some ⟨w.heap.size,0,none⟩),cS dA t.kind,cV false,cV false,cV true,cV true,cX #[cS dA t.kind,cU t.name,cT v.pn v.nn v.kn,cT v.pp v.np v.kp,cV t.many],.func (.func 128) #[] #[cW (some ⟨w.heap.size+1+1+1,0,none⟩)],cS dA (x.1:Nat),cS dA (jW t.parts x.1:Nat),undef,undef,undef,undef,undef,undef,undef,undef,undef,undef,undef,undef,undef,undef,undef,undef,undef,undef,undef,undef,undef,undef,undef],defers:=[]}) ?assign ?body ?done ?stop
 (case own=>exact OwnFrom.and (Own.from (fun s A B row hs hg hr=>⟨cell_kept hs.1 hg hr,(frozen_kept hs.1 hg hr).trans hs.2.1,cell_kept hs.2.2.1 hg hr,(frozen_kept hs.2.2.1 hg hr).trans hs.2.2.2.1,cell_kept hs.2.2.2.2 hg hr⟩) _) (ownFrom_below (aA _) Sv))
 case start=>exact⟨⟨lV _ (lV _ sY.1),tI _ (lV _ sY.1) (tI _ sY.1 sY.2),lV _ sM.1,tI _ sM.1 sM.2,by
  refine lV _ (lV _ (lV _ ?_))
  exact(fV (aH w _)).2.2.2.1⟩,BS⟩
 (case assign=>intro l x W K hK;gi_wp2;exact hK)
 case body=>
  rintro l qF x W ⟨⟨hn,Mz,he,hfe,z3⟩,hB⟩ _;obtain⟨k,hk⟩:=x;(have jS:k<t.parts.length:=by rw[lB.out];exact hk);obtain⟨pt,iD⟩:=Ex (t.parts[k]);obtain⟨c,co,pI,hc,pv,e',he',dM,fD⟩:=(HT.below hB).part jS;rw[←iD]at dM fD;(have Ic:pt∈t.parts:=by rw[iD];exact aE jS);obtain⟨vi,AJ⟩:=rC.part HK3 Ic;have eO:=fun w' (hb:dG W w')=>P2 pt pv e' w' (fD.below hb) vi;have Gk:=Kz t.parts qF ⟨k,hk⟩ jS;have hse:=Lb t.parts qF ⟨k,hk⟩ jS;simp only[←iD]at Gk hse;obtain⟨pa,Qi⟩:=Ex (jW t.parts k);(have hpa80:pa≤81:=by have h1:=Hu k Om;rw[Qi];unfold jW;rw[aB jS];simp only;split<;>omega);rw[←Qi]at Gk;obtain⟨gn,hgn⟩:=Ex (La t.parts qF);obtain⟨ge,Vh⟩:=Ex (Gt t.parts qF);rw[←hgn]at hn;rw[←Vh]at he hse;obtain⟨sz,gO⟩:=Ex (eV pt);rw[←gO]at eO AJ Gk hse;obtain⟨sn,sb⟩:=sz;simp only at AJ Gk hse⊢;rw[←Qi];unfold fN at eO;have HC:=Ih eO;have HB:=Ih hB;have Mf:=Ih Gk;have HSE:=Ih hse;have mZ:W.cell? ⟨c,co+k*5,none⟩=some (cS dA pt.kind):=dM 0 _ rfl;have fK:W.cell? ⟨c,co+k*5+1,none⟩=some (cU pt.name):=dM 1 _ rfl;have iS:W.cell? ⟨c,co+k*5+2,none⟩=some (cT pv.pn pv.nn pv.kn):=dM 2 _ rfl;have qG:W.cell? ⟨c,co+k*5+3,none⟩=some (cT pv.pp pv.np pv.kp):=dM 3 _ rfl;have xC:W.cell? ⟨c,co+k*5+4,none⟩=some (cV pt.many):=dM 4 _ rfl;rw[pI]at z3;have YE:=Ih pI;have yD:(k:Int)<v.np:=Om;clear dM fD eO Gk hse iD Qi hgn Vh gO hB vi he' pI;gi_wp2_with fail;refine⟨trivial,(CallsIn.inRound l (callsIn_wide.2 (HC W (aC _ _)))).mono ?_⟩;rintro x w2 ⟨rfl,eL⟩;have oN:=(eL.cell (p:=⟨w.heap.size+1,0,none⟩) (fA hn)).trans hn;have FP:=(eL.cell (p:=⟨w.heap.size+1+1,0,none⟩) (fA he)).trans he;have M0:=(eL.cell (p:=⟨w.heap.size,3,none⟩) (fA z3)).trans z3;have hf2:=Below.frozen1 eL hn Mz;have yG:=Below.frozen1 eL he hfe;have gC:=Ih eL;clear hn he z3 Mz hfe mZ fK iS qG xC eL HC
  have mp:∀b:Bool,b=(ge||sb)→ownPostK (Below w.heap.size) (fun qF W=>(W.cell? ⟨w.heap.size+1,0,none⟩=some (cS dA (La t.parts qF:Nat))∧W.frozen? ⟨w.heap.size+1,0,none⟩=false∧W.cell? ⟨w.heap.size+1+1,0,none⟩=some (cV (Gt t.parts qF))∧W.frozen? ⟨w.heap.size+1+1,0,none⟩=false∧
   W.cell? ⟨w.heap.size,3,none⟩=some (cT v.pp v.np v.kp))∧dG w W) (fun _ _ _=>False) (qF++[⟨k,hk⟩]) W .normal {tmps:=#[],defers:=[]} ((w2.setCell ⟨w.heap.size+1,0,none⟩ (cS dA ((pa:Int)+sn))).setCell ⟨w.heap.size+1+1,0,none⟩ (cV b)):=by
   intro b hb
   refine⟨((KeepsOthers.of_grownBy (jM gC) (fun j o e=>by cases e)).trans (KeepsOthers.setCell _ _ _)).trans (KeepsOthers.setCell _ _ _),?_,⟨?_,?_,?_,?_,?_⟩,?_⟩
   ·exact((gC.mono HB.size).setCell (p:=⟨w.heap.size+1,0,none⟩) Si _).setCell (p:=⟨w.heap.size+1+1,0,none⟩) Sv _
   ·rw[Mf.out]
    refine(World.cell?_setCell_other _ _ _ _ Si).trans ((World.cell?_setCell_same' _ _ _ (by rw[oN];rfl)).trans (by push_cast;rfl))
   ·rw[World.frozen?_setCell,World.frozen?_setCell];exact hf2
   ·rw[HSE.out,hb]
    exact World.cell?_setCell_same' _ _ _ (by rw[World.cell?_setCell_other _ _ _ _ Si,FP];rfl)
   ·rw[World.frozen?_setCell,World.frozen?_setCell];exact yG
   ·refine(World.cell?_setCell_other _ _ _ _ Si).trans ((World.cell?_setCell_other _ _ _ _ Si).trans (by rw[YE.out];exact M0))
   ·exact((Tm HB gC).setCell (p:=⟨w.heap.size+1,0,none⟩) Si _).setCell (p:=⟨w.heap.size+1+1,0,none⟩) Sv _
  cases ge<;>cases sb;(·gi_wp2_with fail;exact mp _ rfl);(·gi_wp2_with fail;exact mp _ rfl);(·gi_wp2_with fail;exact mp _ rfl);(·gi_wp2_with fail;exact mp _ rfl)
 (case done=>rintro D ys W hD rfl ⟨⟨hn,Mz,he,hfe,jE⟩,hB⟩ hK;obtain⟨g1,g2⟩:=BX t.parts lB;rw[g1]at hn;rw[g2]at he;have sL:=Hu v.np (aA _);have gO:=HX;clear HX;obtain⟨en,mu⟩:=Ex (iQ t.parts v.np);rw[←mu]at hn he sL gO;obtain⟨en,ev⟩:=en;simp only at hn he sL gO;clear mu g1 g2;subst gO;cases ev;(·gi_wp2_with fail;gi_big_quiet_th (fail);have hBn:dG w (W.drewN nq):=⟨hB.os,hB.tape,hB.output,hB.size,hB.block⟩;gi_wp2_with fail;refine⟨by simp,.inl ⟨_,_,rfl,run_takeDeferred (show(W.drewN nq).heap[D]? =_ from hK),?_⟩⟩;refine⟨_,?_,rfl,hBn.trans (belowK_b (w:=w) (aA _) (W.drewN nq) D _ _ (by simp at hD;omega) (show(W.drewN nq).heap[D]? =_ from hK) rfl rfl)⟩;simp[results,Tryz.f56,go_sem]);(·gi_wp2_with fail;gi_big_quiet_th (fail);(have hBn:dG w ((W.setCell ⟨w.heap.size+1,0,none⟩ (cS dA ((en:Int)+(en:Int)%2))).drewN nq):=by have h:=hB.setCell (p:=⟨w.heap.size+1,0,none⟩) Si (cS dA ((en:Int)+(en:Int)%2));exact⟨h.os,h.tape,h.output,h.size,h.block⟩);have hK':((W.setCell ⟨w.heap.size+1,0,none⟩ (cS dA ((en:Int)+(en:Int)%2))).drewN nq).heap[D]? =some (.deferred (some [])):=(KeepsOthers.setCell W _ _).same D _ hK rfl;gi_wp2_with fail;refine⟨by simp,.inl ⟨_,_,rfl,run_takeDeferred hK',?_⟩⟩;refine⟨_,?_,rfl,hBn.trans (belowK_b (w:=w) (aA _) _ D _ _ (by simp at hD;omega) hK' rfl rfl)⟩;simp[results,Tryz.f56,go_sem]));(case stop=>rintro D c qF W _ _ h _;exact h.elim);have h:=aH (((w.alloc (cY #[cS dA t.kind,cU t.name,cT v.pn v.nn v.kn,cT v.pp v.np v.kp,cV t.many] 45)).alloc (cY #[cS dA 0] 3)).alloc (cY #[cV false] 4)) (cY #[cS dA t.kind,cU t.name,cT v.pn v.nn v.kn,cT v.pp v.np v.kp,cV t.many] 45);simp only[World.size_alloc]at h;exact h
theorem Jf:∀d,Un d
 |0=>fun t v e w ht uB=>Je t v w uB
 |d+1=>fun t v e w ht uB=>by
  by_cases h:t.kind=3
  ·exact Wf d (Jf d) t v e w ht uB h
  ·exact Je t v w h
def Dj (d:Nat):Prop:=∀(t:T) (v:TV) (e:Nat) (m:Int) (w:World),TyAt w e t v→Mx m w→
 O U 99 #[fN v t,cS dA (d:Nat)] w fun x w'=>x=cZ (cV (fH d t))∧dG w w'
theorem Zm {f:T→Bool} {l:List T} (hk:k<l.length) (h:∀j (hj:j<l.length),j<k→f l[j]=true) (h2:f l[k]=true):∀j (hj:j<l.length),j<k+1→f l[j]=true:=fun j hj FL=>by
 by_cases e:j<k
 ·exact h j hj e
 ·obtain rfl:j=k:=Om
  exact h2
theorem CZ {f:T→Bool} {l:List T} (h:∀j (hj:j<l.length),f l[j]=true):l.all f=true:=List.all_eq_true.2 fun x hx=>by
 obtain⟨j,hj,rfl⟩:=aQ hx
 exact h j hj
theorem xy {f:T→Bool} {l:List T} (hk:k<l.length) (h:f l[k]=false):l.all f=false:=List.all_eq_false.2 ⟨_,aE hk,by simp[h]⟩
theorem Pm (d:Nat) (ih:Dj d) (hd:d≤10) (t:T) (v:TV) (e:Nat) (m:Int) (w:World) (ht:TyAt w e t v) (hm:Mx m w) (Bt Bd:Nat)
 (hBt:w.heap[Bt]? =some (cY #[cS dA t.kind,cU t.name,cT v.pn v.nn v.kn,cT v.pp v.np v.kp,cV t.many] 45 (0,0)))
 (q:Int) (hq:q=(d:Int)+1) (hBd:w.heap[Bd]? =some (cY #[cS dA q] 3 (0,0))) (lo hi:Nat) (US:lo≤10) (hhi:hi≤10):
 O U 124 #[cS dA (lo:Nat),cS dA (hi:Nat),cW (some ⟨Bt,0,none⟩),cW (some ⟨Bd,0,none⟩)] w
  fun x w'=>x=cZ (cV (decide (lo≤v.np)&&decide (v.np≤hi)&&t.parts.all (fH d)))∧dG w w':=by obtain⟨r,hr⟩:=Ex ((decide (lo≤v.np)&&decide (v.np≤hi)&&t.parts.all (fH d)));rw[←hr];have HR:=Ih hr;have HT:=Ih ht;have HM:=Ih hm;have HI:=Ih ih;have lB:=Ih ht.in.pl;have mE:=ht.in.pb;obtain⟨z0,z1,z2,z3,z4,zz⟩:=fV hBt;have z5:=(dE hBd).1;have hdd:q-1=(d:Nat):=Om;clear hr ht hm ih hBt hBd hq;go_in;by_cases h1:v.np<lo;(·have h1i:(v.np:Int)<lo:=Om;have HF:Hid (r=false):=Ih (by rw[HR.out,decide_eq_false Om];rfl);go_wp2_with fail;go_ret;exact⟨by rw[HF.out];rfl,aC _ _⟩);(·have h1i:¬(v.np:Int)<lo:=Om;by_cases h2:hi<v.np;(·have WU:(hi:Int)<v.np:=Om;have HF:Hid (r=false):=Ih (by rw[HR.out,decide_eq_false (p:=v.np≤hi) Om,Bool.and_false];rfl);go_wp2_with fail;go_ret;exact⟨by rw[HF.out];rfl,aC _ _⟩);(·have WU:¬(hi:Int)<v.np:=Om;have uQ:Hid (r=t.parts.all (fH d)):=Ih (by rw[HR.out,decide_eq_true Om,decide_eq_true Om];rfl);go_wp2_with fail;obtain⟨pp,pH⟩:=Ex v.pp;rw[←pH];rw[←pH]at z3;have Gx:=Ih pH;clear pH;go_loopg[8,24] v.np (fun gk v8 v24 wr=>∃k:Nat,k≤v.np∧gk=v.np-k∧v24=cS dA k∧dG w wr∧∀j (hj:j<t.parts.length),j<k→fH d t.parts[j]=true);(case atStart=>exact⟨0,aJ _,rfl,rfl,aC _ _,fun j hj h=>by omega⟩);(case round=>obtain⟨k,hk,hgk,rfl,hb,eT⟩:=hrel;have HG:=Ih hgk;have HB:=Ih hb;have fP:=Ih eT;clear hgk hb eT;by_cases dH:k<v.np;(·have ZcH:=0;exact V293);(·obtain rfl:k=v.np:=Om;have HF:Hid (r=true):=Ih (by rw[uQ.out];exact CZ fun j hj=>fP j hj (by rw[lB.out]at hj;exact hj));exact V7))))
theorem B4 (t:T):fH 0 t=false:=rfl
theorem Jv {t:T} (h:t.kind=1∨t.kind=2):fH (d+1) t=(sC t&&t.parts.length==0&&!t.many):=by rw[fH,if_pos h]
theorem Ge {t:T} (h:t.kind=3):fH (d+1) t=(!t.many&&nW t.name&&t.names.length==t.parts.length&&(decide (1≤t.parts.length)&&decide (t.parts.length≤6))&&t.parts.all (fH d)&&(t.names.all nW&&(t.names.map fun s=>s.data.toList).Nodup)&&decide ((eV t).1≤12)):=by rw[fH,if_neg Om,if_pos h]
theorem ut {t:T} (h:t.kind=4):fH (d+1) t=(sC t&&(decide (1≤t.parts.length)&&decide (t.parts.length≤7))&&t.parts.all (fH d)):=by rw[fH,if_neg Om,if_neg Om,if_pos h]
theorem Pv {t:T} (h1:t.kind≠1) (h2:t.kind≠2) (h3:t.kind≠3) (h4:t.kind≠4):fH (d+1) t=false:=by rw[fH,if_neg Om,if_neg h3,if_neg h4]
theorem Vs (t:T) (v:TV) (w:World):O U 99 #[fN v t,cS dA 0] w (RB w (cV (fH 0 t))):=by rw[B4];unfold fN;exact V545
theorem Ch (d:Nat) (hd:d≤10) (t:T) (v:TV) (e:Nat) (w:World) (ht:TyAt w e t v) (hk:t.kind=1∨t.kind=2):O U 99 #[fN v t,cS dA ((d+1:Nat):Int)] w (RB w (cV (fH (d+1) t))):=by
 obtain⟨r,hr⟩:=Ex (fH (d+1) t);rw[←hr];rw[Jv hk,ht.in.pl]at hr;have HR:=Ih hr;have mE:=ht.in.pb;obtain⟨q,hq⟩:=Ex (sC t);rw[←hq]at HR;have eO:=fun w' (hb:dG w w')=>Zj t v w' (ht.in.below hb);rw[←hq]at eO;obtain⟨z,hz⟩:=Ex (((v.np:Int)==0))
 have HZ:Hid (z=(v.np==0)):=Ih (by
  rw[hz]
  by_cases h:v.np=0
  ·rw[h];rfl
  ·rw[beq_eq_false_iff_ne.2 h,beq_eq_false_iff_ne.2 Om])
 replace hz:=hz.symm;unfold fN at eO⊢;obtain⟨dp,BH⟩:=Ex (((d+1:Nat):Int));rw[←BH];have hd0:decide (dp<1)=false:=decide_eq_false Om;obtain⟨mn,lY⟩:=Ex t.many;obtain⟨nm,fG⟩:=Ex t.name;rw[←lY]at HR;rw[←lY,←fG]at eO⊢;obtain⟨kd,jT⟩:=Ex t.kind;rw[←jT]at eO hk⊢;clear hr ht hq lY BH jT fG;(have HE:Hid (∀b,z=b→r=(q&&b&&!mn)):=Ih fun b h=>by rw[HR.out,←h,HZ.out]);clear HR HZ;go_in;have Nb:∀kd,dG w ((w.alloc (cY #[cS dA kd,cU nm,cT v.pn v.nn v.kn,cT v.pp v.np v.kp,cV mn] 45)).alloc (cY #[cS dA dp] 3)):=fun kd=>((aC _ _).alloc (aA _) _).alloc Si _;rcases hk with rfl|rfl;(·have HC:=Ih eO;have HB:=Ih (Nb 1);obtain⟨zw,Xm⟩:=Ex (((w.alloc (cY #[cS dA 1,cU nm,cT v.pn v.nn v.kn,cT v.pp v.np v.kp,cV mn] 45)).alloc (cY #[cS dA dp] 3)));(have fT:zw.heap[w.heap.size]? =some (cY #[cS dA 1,cU nm,cT v.pn v.nn v.kn,cT v.pp v.np v.kp,cV mn] 45 (0,0)):=by rw[Xm];exact(Below.heap_alloc _ _ _ Si).trans (aH w _));exact V82);(·have HC:=Ih eO;have HB:=Ih (Nb 2);obtain⟨zw,Xm⟩:=Ex (((w.alloc (cY #[cS dA 2,cU nm,cT v.pn v.nn v.kn,cT v.pp v.np v.kp,cV mn] 45)).alloc (cY #[cS dA dp] 3)));(have fT:zw.heap[w.heap.size]? =some (cY #[cS dA 2,cU nm,cT v.pn v.nn v.kn,cT v.pp v.np v.kp,cV mn] 45 (0,0)):=by rw[Xm];exact(Below.heap_alloc _ _ _ Si).trans (aH w _));exact V82)
theorem uL (a b:Nat):((a:Int)==(b:Int))=(a==b):=by by_cases h:a=b;(·rw[h];simp);(·rw[beq_eq_false_iff_ne.2 h,beq_eq_false_iff_ne.2 Om])
theorem Nh (d:Nat) (ih:Dj d) (hd:d≤10) (t:T) (v:TV) (e:Nat) (m:Int) (w:World) (ht:TyAt w e t v) (hm:Mx m w) (hk:t.kind=3):O U 99 #[fN v t,cS dA ((d+1:Nat):Int)] w (RB w (cV (fH (d+1) t))):=by
 obtain⟨r,hr⟩:=Ex (fH (d+1) t);rw[←hr];obtain⟨a,ha⟩:=Ex (nW t.name);obtain⟨P,hP⟩:=Ex ((decide (1≤v.np)&&decide (v.np≤6)&&t.parts.all (fH d)));obtain⟨N,hN⟩:=Ex (pE t.names);obtain⟨S,hS⟩:=Ex (eV t);rw[Ge hk,ht.in.pl,ht.in.nl,←ha,show(t.names.all nW&&decide (t.names.map fun s=>s.data.toList).Nodup)=N from hN.symm,←hS]at hr;(have iS:r=(!t.many&&a&&(v.nn==v.np)&&P&&N&&decide (S.1≤12)):=by rw[hr,hP];cases(!t.many)<;>cases a<;>cases(v.nn==v.np)<;>cases(decide (1≤v.np))<;>cases(decide (v.np≤6))<;>cases(t.parts.all (fH d))<;>cases N<;>rfl);have Bx:=fun w' (hb:dG w w')=>rU t.name m w' ht.in.sz (hm.below hb);rw[show kI t.name.data.toList=a from ha.symm]at Bx;have Bw:=fun w' (hb:dG w w') Bt Bd hBt q hq hBd=>Pm d ih hd t v e m w' (ht.below hb) (hm.below hb) Bt Bd hBt q hq hBd 1 6 Om Om;rw[←hP]at Bw;have Dv:=fun w' (hb:dG w w') (h2:v.nn≤2000000)=>A6 t.names v.pn v.nn v.kn m w' ht.in.nl h2 ht.in.szs (ht.in.strs.below hb) (hm.below hb);rw[←hN]at Dv
 have kE:=fun w' (hb:dG w w') (h2:P=true)=>Jf (d+1) t v e w' (ht.below hb) (fun _=>by
  rw[hP]at h2
  simp only[aV,decide_eq_true_eq,cJ]at h2
  exact⟨by rw[ht.in.pl];exact h2.1.2,h2.2⟩)
 rw[←hS]at kE;(have h6:P=true→v.np≤6:=fun h2=>by rw[hP]at h2;simp only[aV,decide_eq_true_eq]at h2;exact h2.1.2);have mE:=ht.in.pb;have Qj:=ht.in.nb;have PY:S.1≤12∨¬S.1≤12:=Om;unfold fN at kE⊢;have Zaa:=0;exact V232
theorem zh (d:Nat) (ih:Dj d) (hd:d≤10) (t:T) (v:TV) (e:Nat) (m:Int) (w:World) (ht:TyAt w e t v) (hm:Mx m w) (hk:t.kind=4):O U 99 #[fN v t,cS dA ((d+1:Nat):Int)] w (RB w (cV (fH (d+1) t))):=by obtain⟨r,hr⟩:=Ex (fH (d+1) t);rw[←hr];obtain⟨a,ha⟩:=Ex (sC t);obtain⟨P,hP⟩:=Ex ((decide (1≤v.np)&&decide (v.np≤7)&&t.parts.all (fH d)));rw[ut hk,ht.in.pl,←ha]at hr;(have iS:r=(a&&P):=by rw[hr,hP];cases a<;>cases(decide (1≤v.np))<;>cases(decide (v.np≤7))<;>cases(t.parts.all (fH d))<;>rfl);have zL:=fun w' (hb:dG w w')=>Zj t v w' (ht.in.below hb);rw[←ha]at zL;have Bw:=fun w' (hb:dG w w') Bt Bd hBt q hq hBd=>Pm d ih hd t v e m w' (ht.below hb) (hm.below hb) Bt Bd hBt q hq hBd 1 7 Om Om;rw[←hP]at Bw;unfold fN at zL⊢;have Zab:=0;exact V232
theorem Vt (d:Nat) (hd:d≤10) (t:T) (v:TV) (w:World) (h1:t.kind≠1) (h2:t.kind≠2) (h3:t.kind≠3) (h4:t.kind≠4):O U 99 #[fN v t,cS dA ((d+1:Nat):Int)] w (RB w (cV (fH (d+1) t))):=by rw[Pv h1 h2 h3 h4];unfold fN;have Zac:=0;exact V232
theorem Iy:∀d,d≤10→Dj d
 |0,_=>fun t v e m w _ _=>Vs t v w
 |d+1,hd=>fun t v e m w ht hm=>by
  have ih:=Iy d Om
  by_cases h1:t.kind=1
  ·exact Ch d Om t v e w ht (.inl h1)
  ·by_cases h2:t.kind=2
   ·exact Ch d Om t v e w ht (.inr h2)
   ·by_cases h3:t.kind=3
    ·exact Nh d ih Om t v e m w ht hm h3
    ·by_cases h4:t.kind=4
     ·exact zh d ih Om t v e m w ht hm h4
     ·exact Vt d Om t v w h1 h2 h3 h4
theorem vL (t:T) (v:TV) (e:Nat) (m:Int) (w:World) (ht:TyAt w e t v) (hm:Mx m w):O U 53 #[fN v t] w (RB w (cV (oM t))):=by have hc:=fun w' (hb:dG w w')=>Iy 4 Om t v e m w' (ht.below hb) (hm.below hb);rw[show fH 4 t=oM t from rfl]at hc;unfold fN at hc⊢;have HC:=Ih hc;clear hc ht hm;exact V33
theorem Bc {t:T} (h:oM t=true):SizeOk 4 t:=fun hk=>⟨((iL h).struct hk).2.2.2.2.1,fun p hp=>(iL h).parts p hp⟩
theorem kV (t:T) (v:TV) (e:Nat) (m:Int) (w:World) (ht:TyAt w e t v) (hm:Mx m w):O U 27 #[fN v t] w (RB w (cS dA (dQ t:Nat))):=by have Zgc:=0;exact V407
theorem CI (t:T) (v:TV) (e:Nat) (m:Int) (w:World) (ht:TyAt w e t v) (hm:Mx m w):O U 107 #[fN v t] w (RB w (cV (Yw t))):=by have Zgd:=0;exact V407
theorem qZ {t:T} (h:t.kind=1):dN t=GX:=by obtain⟨k,n,ns,ps,m⟩:=t;have h:k=1:=h;rw[dN,if_pos h]
theorem qY {t:T} (h:t.kind=2):dN t=Q6:=by obtain⟨k,n,ns,ps,m⟩:=t;have h:k=2:=h;rw[dN,if_neg Om,if_pos h]
theorem qX {t:T} (h:t.kind=3):dN t=mA++t.name.data.toList++[123]++eJ (t.parts.map dN) t.names++[125]:=by obtain⟨k,n,ns,ps,m⟩:=t;have h:k=3:=h;rw[dN,if_neg Om,if_neg Om,if_pos h,tR];rfl
theorem Cj {t:T} (h:t.kind=4) (hp:1≤t.parts.length):dN t=Do++dZ true ((t.parts.map dN).take (t.parts.length-1))++gI (t.parts.length==1) t.many++[41]++dN (t.parts[t.parts.length-1]'Om):=by obtain⟨k,n,ns,ps,m⟩:=t;have h:k=4:=h;have hp:1≤ps.length:=hp;rw[dN,if_neg Om,if_neg Om,if_neg Om,if_pos h,tR,aN,aB Sv];simp[T.parts,T.many]
theorem Ao:∀(xs:List (List UInt8)) (ns:List ByteArray) (k:Nat) (h:k<xs.length) (h':k<ns.length),eJ (xs.take (k+1)) (ns.take (k+1))=eJ (xs.take k) (ns.take k)++xs[k]++[32]++ns[k].data.toList++[59]
 |[],_,_,h,_=>by simp at h
 |_::_,[],_,_,h=>by simp at h
 |x::xs,n::ns,0,_,_=>by simp[eJ]
 |x::xs,n::ns,k+1,h,h'=>by
  have:=Ao xs ns k (by simpa using h) (by simpa using h')
  simp only[List.take_succ_cons,eJ,this]
  simp
theorem Gv:∀(xs:List (List UInt8)) (ns:List ByteArray) (k:Nat),(eJ (xs.take k) (ns.take k)).length≤(eJ xs ns).length
 |[],_,_=>by simp[eJ]
 |_::_,[],k=>by cases k<;>simp[eJ]
 |x::xs,n::ns,0=>by simp[eJ]
 |x::xs,n::ns,k+1=>by
  have:=Gv xs ns k
  simp only[List.take_succ_cons,eJ,aD]
  omega
theorem Ak:∀(xs:List (List UInt8)) (f:Bool) (k:Nat) (h:k<xs.length),dZ f (xs.take (k+1))=dZ f (xs.take k)++(if f&&k==0 then []else [44])++xs[k]
 |[],_,_,h=>by simp at h
 |x::xs,f,0,_=>by cases f<;>simp[dZ]
 |x::xs,f,k+1,h=>by
  have:=Ak xs false k (by simpa using h)
  simp only[List.take_succ_cons,dZ,this]
  simp
theorem Xb (xs:List (List UInt8)) (f:Bool) (k:Nat):(dZ f (xs.take k)).length≤(dZ f xs).length:=by
 induction xs generalizing f k with
  |nil=>simp
  |cons x xs ih=>
   cases k with
   |zero=>simp[dZ]
   |succ k=>
    have:=ih false k
    simp only[List.take_succ_cons,dZ,aD]
    omega
theorem Fg (l r:List UInt8):bK (l++r)=bK l++bK r:=by unfold bK;rw[aS]
def Um (d:Nat):Prop:=∀(t:T) (v:TV) (e:Nat) (w0 w:World) (b:Nat) (l:List UInt8),TyAt w0 e t v→fH d t=true→dG w0 w→xN w0.heap.size b (bK l) w→l.length+(dN t).length≤1000000→
 O U 54 #[cW (some ⟨b,0,none⟩),fN v t] w fun x w'=>x=cZ (.tuple #[])∧xN w0.heap.size b (bK (l++dN t)) w'∧OnlyB w0.heap.size b w w'
theorem Vq (s:ByteArray) (w0 w:World) (b:Nat) (l r:List UInt8) (hB:dG w0 w) (h:xN w0.heap.size b (bK l) w) (hr:s.data.toList=r) (hl:l.length+r.length≤1000000):
 O U 100 #[cW (some ⟨b,0,none⟩),cU s] w fun x w'=>x=cZ (.tuple #[cS dA s.size,.nilIface])∧xN w0.heap.size b (bK (l++r)) w'∧OnlyB w0.heap.size b w w':=by subst hr;rw[Fg];refine He _ _ _ _ _ h ?_ hB.size;(have h1:(bK l).length=l.length:=by simp[bK]);rw[h1,←nO];omega
theorem Vp (d:Nat) (t:T) (v:TV) (w0 w:World) (b:Nat) (l:List UInt8) (hk:t.kind=1∨t.kind=2) (hB:dG w0 w) (h:xN w0.heap.size b (bK l) w) (hl:l.length+(dN t).length≤1000000):
 O U 54 #[cW (some ⟨b,0,none⟩),fN v t] w fun x w'=>x=cZ (.tuple #[])∧xN w0.heap.size b (bK (l++dN t)) w'∧OnlyB w0.heap.size b w w':=by
 have HW:Hid (∀W,OnlyB w0.heap.size b w W→xN w0.heap.size b (bK l) W→∀s:ByteArray,s.data.toList=dN t→O U 100 #[cW (some ⟨b,0,none⟩),cU s] W fun x w'=>x=cZ (.tuple #[cS dA s.size,.nilIface])∧xN w0.heap.size b (bK (l++dN t)) w'∧OnlyB w0.heap.size b W w'):=
  Ih fun W ho hi s hs=>Vq s w0 W b l (dN t) (hB.trans ho.1) hi hs hl
 have hBx:=hB.size;have HO:Hid (OnlyB w0.heap.size b w (w.alloc (cY #[cS dA t.kind,cU t.name,cT v.pn v.nn v.kn,cT v.pp v.np v.kp,cV t.many] 45))):=Ih ⟨(aC _ _).alloc hBx _,(Lib.OthersKept.refl _ _ _).alloc _⟩;have HI:Hid (xN w0.heap.size b (bK l) (w.alloc (cY #[cS dA t.kind,cU t.name,cT v.pn v.nn v.kn,cT v.pp v.np v.kp,cV t.many] 45))):=Ih (rH h _);unfold fN;rcases hk with hk|hk;(·have h1:(t.kind==1)=true:=beq_iff_eq.2 hk;have HT:=Ih (qZ hk);exact V237);(·(have h1:(t.kind==1)=false:=by rw[hk];rfl);have h2:(t.kind==2)=true:=beq_iff_eq.2 hk;have HT:=Ih (qY hk);exact V237)
theorem OnlyB.keep {ty:TypeId} {fz:Nat×Nat} (h:OnlyB B b w w') (hk:w.heap[k]? =some (cY cs ty fz)) (hb:k≠b) (ht:ty≠5):w'.heap[k]? =some (cY cs ty fz):=
 h.2 k _ hk (fun e=>hb (Option.some.inj e)) (fun c f e=>by injection e with _ e2;exact ht e2)
theorem OnlyB.alloc (h:OnlyB B b w w') (hB:B≤w'.heap.size) (o:Obj):OnlyB B b w (w'.alloc o):=⟨h.1.alloc hB o,h.2.alloc o⟩
theorem ju {bs:List Value} (h:xN B b bs w):b<w.heap.size:=h.elim (·.lt) (·.lt)
theorem Ru (d:Nat) (ih:Um d) (t:T) (v:TV) (e:Nat) (w0 w:World) (b:Nat) (l:List UInt8) (ht:TyAt w0 e t v) (hm:fH (d+1) t=true) (hk:t.kind=3) (hB:dG w0 w) (h:xN w0.heap.size b (bK l) w) (hl:l.length+(dN t).length≤1000000):
 O U 54 #[cW (some ⟨b,0,none⟩),fN v t] w fun x w'=>x=cZ (.tuple #[])∧xN w0.heap.size b (bK (l++dN t)) w'∧OnlyB w0.heap.size b w w':=by have Hm:=iL hm;obtain⟨_,_,nU,_,_,_,_,_⟩:=Hm.struct hk;have iU:=ht.in.pl;have sX:=ht.in.nl;have wJ:v.nn=v.np:=Om;have mE:=ht.in.pb;have WE:=ju h;have hBx:=hB.size;have rM:=Ih (qX hk);have HPM:=Ih Hm.parts;have lB:=Ih iU;have zP:=Ih (sX.trans wJ);have Z8I:=0;exact V180
theorem TyAt.rows {t:T} {v:TV} (h:TyAt w d t v) (hp:0<t.parts.length):∃c co,v.pp=some ⟨c,co,none⟩∧c<w.heap.size∧∀j (hj:j<t.parts.length),∃pv e',w.rangeAt c (co+j*5) (TV.cells pv t.parts[j])∧TyAt w e' t.parts[j] pv:=by obtain⟨c,co,pI,hc,_⟩:=h.part hp;refine⟨c,co,pI,hc,fun j hj=>?_⟩;obtain⟨c',FQ,hpp',_,pv,e',_,h1,h2⟩:=h.part hj;rw[pI]at hpp';(obtain⟨rfl,rfl⟩:c=c'∧co=FQ:=by simpa using hpp');exact⟨pv,e',h1,h2⟩
theorem lU {c:Nat} {pv:TV} {pt:T} (hb:dG w0 w) (hc:c<w0.heap.size) (h:w0.rangeAt c co (TV.cells pv pt)):
 w.cell? ⟨c,co,none⟩=some (cS dA pt.kind)∧w.cell? ⟨c,co+1,none⟩=some (cU pt.name)∧w.cell? ⟨c,co+2,none⟩=some (cT pv.pn pv.nn pv.kn)∧w.cell? ⟨c,co+3,none⟩=some (cT pv.pp pv.np pv.kp)∧w.cell? ⟨c,co+4,none⟩=some (cV pt.many):=
 ⟨(hb.cell (p:=⟨c,co,none⟩) hc).trans (h 0 _ rfl),(hb.cell (p:=⟨c,co+1,none⟩) hc).trans (h 1 _ rfl),(hb.cell (p:=⟨c,co+2,none⟩) hc).trans (h 2 _ rfl),(hb.cell (p:=⟨c,co+3,none⟩) hc).trans (h 3 _ rfl),(hb.cell (p:=⟨c,co+4,none⟩) hc).trans (h 4 _ rfl)⟩
theorem P8 (d:Nat) (ih:Um d) (t:T) (v:TV) (e:Nat) (w0 w:World) (b:Nat) (l:List UInt8) (ht:TyAt w0 e t v) (hm:fH (d+1) t=true) (hk:t.kind=4) (hB:dG w0 w) (h:xN w0.heap.size b (bK l) w) (hl:l.length+(dN t).length≤1000000):
 O U 54 #[cW (some ⟨b,0,none⟩),fN v t] w fun x w'=>x=cZ (.tuple #[])∧xN w0.heap.size b (bK (l++dN t)) w'∧OnlyB w0.heap.size b w w':=by have Hm:=iL hm;have iU:=ht.in.pl;obtain⟨nU,AN⟩:=Hm.fn hk;have mE:=ht.in.pb;have dc:=ht.in.pk;have Nq:=ht.in.qb;have WE:=ju h;have hBx:=hB.size;have rM:=Ih (Cj hk nU);have HPM:=Ih Hm.parts;have lB:=Ih iU;have Z8J:=0;exact V180
theorem Dx:∀d,Um d
 |0=>fun t v e w0 w b l ht hm hB h hl=>by simp[fH]at hm
 |d+1=>fun t v e w0 w b l ht hm hB h hl=>by
  have hk:=(iL hm).kind
  by_cases h3:t.kind=3
  ·exact Ru d (Dx d) t v e w0 w b l ht hm h3 hB h hl
  ·by_cases h4:t.kind=4
   ·exact P8 d (Dx d) t v e w0 w b l ht hm h4 hB h hl
   ·exact Vp d t v w0 w b l Om hB h hl
theorem Xf (h:nW s=true):s.data.toList.length≤16:=by rcases Nat.lt_or_ge 16 s.data.toList.length with h1|h1;(·unfold nW at h;rw[tV (.inr h1)]at h;cases h);(·exact h1)
theorem Df {L:Nat}:∀(xs:List (List UInt8)) (ns:List ByteArray),(∀x∈xs,x.length≤L)→(∀s∈ns,nW s=true)→(eJ xs ns).length≤xs.length*(L+18)
 |[],_,_,_=>by simp[eJ]
 |_::_,[],_,_=>by simp[eJ]
 |x::xs,n::ns,hx,hn=>by
  have h1:=Df xs ns (fun y hy=>hx y (aP _ hy)) (fun y hy=>hn y (aP _ hy))
  have h2:=hx x aU
  have h3:=Xf (hn n aU)
  simp only[eJ,aD,aM,aT]
  rw[Nat.add_one_mul]
  omega
theorem Cn {L:Nat}:∀(xs:List (List UInt8)) (f:Bool),(∀x∈xs,x.length≤L)→(dZ f xs).length≤xs.length*(L+1)
 |[],_,_=>by simp[dZ]
 |x::xs,f,hx=>by
  have h1:=Cn xs false (fun y hy=>hx y (aP _ hy))
  have h2:=hx x aU
  cases f<;>simp only[dZ,aD,aM,aT,if_true,if_false,Bool.false_eq_true]<;>rw[Nat.add_one_mul]<;>omega
theorem Dy:∀(d:Nat) (t:T),fH d t=true→(dN t).length≤100*8^d
 |0,t,h=>by simp[fH]at h
 |d+1,t,h=>by
  have Hm:=iL h
  have ih:=Dy d
  have hpos:1≤8^d:=Nat.one_le_pow _ _ Om
  rw[Nat.pow_succ]
  generalize 8^d=q at*
  by_cases h3:t.kind=3
  ·rw[qX h3]
   have hs:=Hm.struct h3
   have h1:=Xf hs.2.1
   have h2:=Df (L:=100*q) (t.parts.map dN) t.names (by intro x hx;obtain⟨p,hp,rfl⟩:=List.mem_map.1 hx;exact ih p (Hm.parts p hp)) hs.2.2.2.2.2.1
   rw[aI]at h2
   have h3:t.parts.length*(100*q+18)≤6*(100*q+18):=Nat.mul_le_mul_right _ hs.2.2.2.2.1
   simp only[aD,aM,aT,mA]
   omega
  ·by_cases h4:t.kind=4
   ·have hf:=Hm.fn h4
    rw[Cj h4 hf.1]
    have h2:=Cn (L:=100*q) ((t.parts.map dN).take (t.parts.length-1)) true (by intro x hx;obtain⟨p,hp,rfl⟩:=List.mem_map.1 (List.mem_of_mem_take hx);exact ih p (Hm.parts p hp))
    have h5:=ih _ (Hm.parts _ (aE (show t.parts.length-1<t.parts.length by omega)))
    have h6:((t.parts.map dN).take (t.parts.length-1)).length≤6:=by simp;omega
    have h7:=Nat.mul_le_mul_right (100*q+1) h6
    have h8:(gI (t.parts.length==1) t.many).length≤4:=by
     unfold gI
     cases(t.parts.length==1)<;>cases t.many<;>decide
    simp only[aD,aM,aT,Do]
    omega
   ·have hk:=Hm.kind
    by_cases h1:t.kind=1
    ·rw[qZ h1];simp only[GX,aM,aT];omega
    ·rw[qY Om];simp only[Q6,aM,aT];omega
def dV (t:T):ByteArray:=⟨(Hf t).toArray⟩
theorem fj {t:T} (h:oM t=false):dV t=⟨#[]⟩:=by unfold dV Hf;rw[h];rfl
theorem xS (t:T) (v:TV) (e:Nat) (m:Int) (w:World) (ht:TyAt w e t v) (hm:Mx m w):O U 26 #[fN v t] w (RB w (cU (dV t))):=by have hc:=fun w' (hb:dG w w')=>vL t v e m w' (ht.below hb) (hm.below hb);have hs:=fun(h:oM t=true) w0 (hb:dG w w0) w' (rI:dG w0 w') b hi=>Dx 4 t v e w0 w' b [] (ht.below hb) h rI hi (by have:=Dy 4 t h;simp at this⊢;omega);obtain⟨b,hb⟩:=Ex (oM t);obtain⟨r,hr⟩:=Ex (dV t);(have hrT:b=true→r=⟨(dN t).toArray⟩:=fun h=>by rw[hr];unfold dV Hf;rw[←hb,h];rfl);(have hrF:b=false→r=⟨#[]⟩:=fun h=>by rw[hr];exact fj (hb▸h));rw[←hb]at hc hs;rw[←hr];unfold fN at hc hs⊢;have HC:=Ih hc;have HS:=Ih hs;have GA:=Ih hrT;have yl:=Ih hrF;clear hc hs hr ht hm hb hrT hrF;have Z4h:=0;exact V73
abbrev cB (bn:ByteArray) (bs:Bool) (bk:Int) (iG:ByteArray) (bt:TV) (bm:Bool) (rg:Int) (pc:Option Addr) (nc kc:Nat):Array Value:=#[cU bn,cV bs,cS dA bk,cU iG,cT bt.pn bt.nn bt.kn,cT bt.pp bt.np bt.kp,cV bm,cS dA rg,cT pc nc kc]
structure OV where
 pd:Option Addr
 nd:Nat
 kd:Nat
 ps:Option Addr
 ns:Nat
 ks:Nat
 tv:TV
def oA (v:OV) (o:Ord):List Value:=[cS dA o.op,cT v.pd v.nd v.kd,cT v.ps v.ns v.ks,cS dA o.n,cU o.name,cS dA o.ty.kind,cU o.ty.name,cT v.tv.pn v.tv.nn v.tv.kn,cT v.tv.pp v.tv.np v.tv.kp,cV o.ty.many]
def iW (v:OV) (o:Ord):Value:=cX #[cS dA o.op,cT v.pd v.nd v.kd,cT v.ps v.ns v.ks,cS dA o.n,cU o.name,cS dA o.ty.kind,cU o.ty.name,cT v.tv.pn v.tv.nn v.tv.kn,cT v.tv.pp v.tv.np v.tv.kp,cV o.ty.many]
structure OrdAt (w:World) (o:Ord) (v:OV):Prop where
 dl:o.d.length=v.nd
 sl:o.s.length=v.ns
 dk:v.nd≤v.kd
 sk:v.ns≤v.ks
 db:v.kd≤9223372036854775807
 sb:v.ks≤9223372036854775807
 ds:SliceAt w dA v.pd o.d
 ss:SliceAt w dA v.ps o.s
 d64:∀r∈o.d,lJ r
 s64:∀r∈o.s,lJ r
 op:lJ o.op
 n:lJ o.n
 sz:o.name.size≤9223372036854775807
 ty:∃e,TyAt w e o.ty v.tv
theorem OrdAt.below {o:Ord} {v:OV} (h:OrdAt w o v) (hb:dG w w'):OrdAt w' o v:=
 ⟨h.dl,h.sl,h.dk,h.sk,h.db,h.sb,h.ds.below hb,h.ss.below hb,h.d64,h.s64,h.op,h.n,h.sz,h.ty.imp fun _ ht=>ht.below hb⟩
structure BV where
 tv:TV
 pc:Option Addr
 nc:Nat
 kc:Nat
def uK (v:BV) (b:oJ):List Value:=[cU b.name,cV b.static,cS dA b.ty.kind,cU b.ty.name,cT v.tv.pn v.tv.nn v.tv.kn,cT v.tv.pp v.tv.np v.tv.kp,cV b.ty.many,cS dA b.regs,cT v.pc v.nc v.kc]
def gG (v:BV) (b:oJ):Value:=cX #[cU b.name,cV b.static,cS dA b.ty.kind,cU b.ty.name,cT v.tv.pn v.tv.nn v.tv.kn,cT v.tv.pp v.tv.np v.tv.kp,cV b.ty.many,cS dA b.regs,cT v.pc v.nc v.kc]
def OrdsAt (w:World) (p:Option Addr) (l:List Ord):Prop:=l.length=0∨∃c co,p=some ⟨c,co,none⟩∧c<w.heap.size∧∀j (h:j<l.length),∃v,w.rangeAt c (co+j*10) (oA v l[j])∧OrdAt w l[j] v
theorem OrdsAt.below {l:List Ord} (h:OrdsAt w p l) (hb:dG w w'):OrdsAt w' p l:=by rcases h with h|⟨c,co,e,hc,hr⟩;(·exact .inl h);(·refine .inr ⟨c,co,e,aF hc hb.size,fun j hj=>?_⟩;obtain⟨v,h1,h2⟩:=hr j hj;exact⟨v,fun i u hu=>(hb.cell (p:=⟨c,co+j*10+i,none⟩) hc).trans (h1 i u hu),h2.below hb⟩)
theorem OrdsAt.get {l:List Ord} (h:OrdsAt w p l) (hl:0<l.length):∃c co,p=some ⟨c,co,none⟩∧c<w.heap.size∧∀j (h:j<l.length),∃v,w.rangeAt c (co+j*10) (oA v l[j])∧OrdAt w l[j] v:=by rcases h with h|h;(·omega);(·exact h)
structure BodAt (w:World) (b:oJ) (v:BV):Prop where
 cl:b.code.length=v.nc
 ck:v.nc≤v.kc
 cb:v.kc≤9223372036854775807
 code:OrdsAt w v.pc b.code
 regs:lJ b.regs
 sz:b.name.size≤9223372036854775807
 ty:∃e,TyAt w e b.ty v.tv
theorem BodAt.below {b:oJ} {v:BV} (h:BodAt w b v) (hb:dG w w'):BodAt w' b v:=
 ⟨h.cl,h.ck,h.cb,h.code.below hb,h.regs,h.sz,h.ty.imp fun _ ht=>ht.below hb⟩
theorem jY {c:Nat} {v:OV} {o:Ord} (hb:dG w0 w) (hc:c<w0.heap.size) (h:w0.rangeAt c co (oA v o)):
 w.cell? ⟨c,co,none⟩=some (cS dA o.op)∧w.cell? ⟨c,co+1,none⟩=some (cT v.pd v.nd v.kd)∧w.cell? ⟨c,co+2,none⟩=some (cT v.ps v.ns v.ks)∧w.cell? ⟨c,co+3,none⟩=some (cS dA o.n)∧w.cell? ⟨c,co+4,none⟩=some (cU o.name)∧
 w.cell? ⟨c,co+5,none⟩=some (cS dA o.ty.kind)∧w.cell? ⟨c,co+6,none⟩=some (cU o.ty.name)∧w.cell? ⟨c,co+7,none⟩=some (cT v.tv.pn v.tv.nn v.tv.kn)∧w.cell? ⟨c,co+8,none⟩=some (cT v.tv.pp v.tv.np v.tv.kp)∧w.cell? ⟨c,co+9,none⟩=some (cV o.ty.many):=
 ⟨(hb.cell (p:=⟨c,co,none⟩) hc).trans (h 0 _ rfl),(hb.cell (p:=⟨c,co+1,none⟩) hc).trans (h 1 _ rfl),(hb.cell (p:=⟨c,co+2,none⟩) hc).trans (h 2 _ rfl),(hb.cell (p:=⟨c,co+3,none⟩) hc).trans (h 3 _ rfl),(hb.cell (p:=⟨c,co+4,none⟩) hc).trans (h 4 _ rfl),
  (hb.cell (p:=⟨c,co+5,none⟩) hc).trans (h 5 _ rfl),(hb.cell (p:=⟨c,co+6,none⟩) hc).trans (h 6 _ rfl),(hb.cell (p:=⟨c,co+7,none⟩) hc).trans (h 7 _ rfl),(hb.cell (p:=⟨c,co+8,none⟩) hc).trans (h 8 _ rfl),(hb.cell (p:=⟨c,co+9,none⟩) hc).trans (h 9 _ rfl)⟩
theorem fJ {t:TypeId} {v8:Value} (h:w.heap[b]? =some (cY #[v0,v1,v2,v3,v4,v5,v6,v7,v8,v9] t (0,0))):
 w.cell? ⟨b,0,none⟩=some v0∧w.cell? ⟨b,1,none⟩=some v1∧w.cell? ⟨b,2,none⟩=some v2∧w.cell? ⟨b,3,none⟩=some v3∧w.cell? ⟨b,4,none⟩=some v4∧w.cell? ⟨b,5,none⟩=some v5∧w.cell? ⟨b,6,none⟩=some v6∧w.cell? ⟨b,7,none⟩=some v7∧w.cell? ⟨b,8,none⟩=some v8∧w.cell? ⟨b,9,none⟩=some v9∧∀o,w.frozen? ⟨b,o,none⟩=false:=
 ⟨cell_of_row w b 0 _ _ _ h,cell_of_row w b 1 _ _ _ h,cell_of_row w b 2 _ _ _ h,cell_of_row w b 3 _ _ _ h,cell_of_row w b 4 _ _ _ h,cell_of_row w b 5 _ _ _ h,cell_of_row w b 6 _ _ _ h,cell_of_row w b 7 _ _ _ h,cell_of_row w b 8 _ _ _ h,cell_of_row w b 9 _ _ _ h,fun o=>by simp[bN,h]⟩
theorem jV {t:TypeId} {v8:Value} (h:w.heap[b]? =some (cY #[v0,v1,v2,v3,v4,v5,v6,v7,v8] t (0,0))):
 w.cell? ⟨b,0,none⟩=some v0∧w.cell? ⟨b,1,none⟩=some v1∧w.cell? ⟨b,2,none⟩=some v2∧w.cell? ⟨b,3,none⟩=some v3∧w.cell? ⟨b,4,none⟩=some v4∧w.cell? ⟨b,5,none⟩=some v5∧w.cell? ⟨b,6,none⟩=some v6∧w.cell? ⟨b,7,none⟩=some v7∧w.cell? ⟨b,8,none⟩=some v8∧∀o,w.frozen? ⟨b,o,none⟩=false:=
 ⟨cell_of_row w b 0 _ _ _ h,cell_of_row w b 1 _ _ _ h,cell_of_row w b 2 _ _ _ h,cell_of_row w b 3 _ _ _ h,cell_of_row w b 4 _ _ _ h,cell_of_row w b 5 _ _ _ h,cell_of_row w b 6 _ _ _ h,cell_of_row w b 7 _ _ _ h,cell_of_row w b 8 _ _ _ h,fun o=>by simp[bN,h]⟩
theorem U3 {t:T} (h:oM t=true) {p:T} (hp:p∈t.parts):oM p=true:=IZ ((iL h).parts p hp)
theorem yW {t:T} (h:oM t=true):dQ t=(eV t).1:=by unfold dQ;rw[if_pos h]
theorem kW {t:T}:dQ t≤12:=by unfold dQ;split;(·rename_i h;by_cases h3:t.kind=3;(·exact((iL h).struct h3).2.2.2.2.2.2.2);(·by_cases h2:t.kind=2;(·rw[nB h2];decide);(·rw[lL h2 h3];decide)));(·omega)
theorem zA (l:List T):(l.map dQ).sum≤12*l.length:=by
 induction l with
  |nil=>simp
  |cons p l ih=>
   have:=kW (t:=p)
   simp only[bC,List.sum_cons,aM]
   omega
theorem fY {t:T} (h:mL t=true):1≤t.parts.length∧t.parts.length≤7:=by unfold mL at h;simp only[aV,decide_eq_true_eq]at h;exact(iL h.2).fn h.1
theorem vI (t:T) (v:TV) (e:Nat) (m:Int) (w:World) (ht:TyAt w e t v) (hm:Mx m w) (hp:1≤t.parts.length∧t.parts.length≤7):
 O U 78 #[fN v t] w (RB w (cS dA (eR t:Nat))):=by obtain⟨c,co,gP,hc,dO⟩:=ht.rows Om;have Nq:=ht.in.qb;have dc:=ht.in.pk;have lH:=Ih dO;have lB:=Ih ht.in.pl;have HM:=Ih hm;obtain⟨np,nU⟩:=Ex v.np;obtain⟨n,hn⟩:∃n,np=n+1:=⟨v.np-1,by have:=ht.in.pl;omega⟩;have Z6C:=0;exact V142
theorem P7 (t:T) (v:TV) (w:World) (ht:TyIn w t v):
 O U 123 #[fN v t] w (RB w (cV (Cf t))):=by obtain⟨r,hr⟩:=Ex (Cf t);have sX:=ht.nl;have iU:=ht.pl;have Qj:=ht.nb;have mE:=ht.pb;have Z6p:=0;exact V135
def sF (l:Lc):Value:=cX #[cV l.1,cS dA (l.2:Nat)]
def zG (l:Lc):List Value:=[cV l.1,cS dA (l.2:Nat)]
def fC (l:List Lc):List Value:=l.flatMap zG
theorem QA:tL U 94 149 2:=kP (z:=.agg #[.bool false,.int .i64 0]) (bytes:=16) Tryz.underlying94 Kr De De De
def jP (g:Nat×Nat):Obj:=cY #[cS dA (g.1:Nat),cS dA (g.2:Nat)] 158 (0,0)
theorem Wk {t:TypeId} {u0 u1:Value} (h:w.heap[b]? =some (cY #[u0,u1] t (0,0))) (v:Value):(w.setCell ⟨b,0,none⟩ v).heap[b]? =some (cY #[v,u1] t (0,0)):=by simp[cN,Array.getElem?_modify,h]
theorem uk {t:TypeId} {u0 u1:Value} (h:w.heap[b]? =some (cY #[u0,u1] t (0,0))) (v:Value):(w.setCell ⟨b,1,none⟩ v).heap[b]? =some (cY #[u0,v] t (0,0)):=by simp[cN,Array.getElem?_modify,h]
theorem grown_box1:w.grownBy (w.setCell ⟨b,1,none⟩ v) (some b):=
 ⟨rfl,rfl,rfl,by simp[cN],fun k _ hk=>bV _ _ _ k (fun e=>hk (by rw[e]))⟩
theorem Gs {r:Option Nat} (h:w.grownBy w1 r):w.grownBy w1.drew r:=⟨h.os,h.tape,h.output,h.size,h.block⟩
theorem dX {q:Obj} (o:Obj) (h:w.heap[b]? =some q):(w.alloc o).heap[b]? =some q:=(aR w o b (dB h)).trans h
theorem xJ {t:TypeId} (h:w.heap[b]? =some (cY #[v0,v1] t (0,0))):w.cell? ⟨b,0,none⟩=some v0∧w.cell? ⟨b,1,none⟩=some v1∧∀o,w.frozen? ⟨b,o,none⟩=false:=
 ⟨cell_of_row w b 0 _ _ _ h,cell_of_row w b 1 _ _ _ h,fun o=>by simp[bN,h]⟩
theorem Jt (pg:Nat) (g:Nat×Nat) (b:Nat) (w:World) (jE:w.heap[pg]? =some (jP g)) (hg:mO b g) (hb:b≤1000000):
 O U 63 #[cW (some ⟨pg,0,none⟩)] w fun x w'=>x=cZ (sF (gY g).1)∧w'.heap[pg]? =some (jP (gY g).2)∧w.grownBy w' (some pg):=by have ZiQ:=0;exact V471
theorem Ll (pg:Nat) (g:Nat×Nat) (b:Nat) (w:World) (jE:w.heap[pg]? =some (jP g)) (hg:mO b g) (hb:b≤1000000):
 O U 108 #[cW (some ⟨pg,0,none⟩)] w fun x w'=>x=cZ (.tuple #[])∧w'.heap[pg]? =some (jP (mK g))∧w.grownBy w' (some pg):=by have ZiR:=0;exact V471
theorem Ky (h:dG w w1) (r:Option Nat):w.grownBy w1 r:=⟨h.os,h.tape,h.output,h.size,fun b hb _=>h.block b hb⟩
theorem uE (g:Nat×Nat):∀n,(kJ n g).1.length=n
 |0=>rfl
 |n+1=>by rw[kJ,aD,uE g n];rfl
theorem ID {n:Nat} (hb:base≤w.heap.size) (hl:xs.length=n*size) (hn:n≤1000000):(w.alloc (cY xs.toArray e)).ownsRow base e size (cT (some ⟨w.heap.size,0,none⟩) n n) n xs:=
 ⟨hl,.inr ⟨_,_,_,rfl,hb,heap_alloc_new w _,aA _,by unfold maxLen;omega,by simpa using hl,by simp[←hl]⟩⟩
theorem t7 (pg:Nat) (g:Nat×Nat) (b:Nat) (t:T) (v:TV) (e:Nat) (m:Int) (w:World) (jE:w.heap[pg]? =some (jP g)) (hg:mO b g) (hb:b≤100000) (ht:TyAt w e t v) (hm:Mx m w):
 O U 64 #[cW (some ⟨pg,0,none⟩),fN v t] w fun x w'=>∃pv,x=cZ (.tuple #[pv,cV (iN t g).1.2])∧w'.ownsRow w.heap.size 149 2 pv (iN t g).1.1.length (fC (iN t g).1.1)∧w'.heap[pg]? =some (jP (iN t g).2)∧w.grownBy w' (some pg):=by have dH:=dB jE;have qS:=fun w' (hb:dG w w')=>kV t v e m w' (ht.below hb) (hm.below hb);have KX:=fun w' (hb:dG w w')=>CI t v e m w' (ht.below hb) (hm.below hb);have Y7:dQ t≤12:=kW;obtain⟨x,hx⟩:=Ex (dQ t);obtain⟨q,hq⟩:=Ex (Yw t);obtain⟨res,sJ⟩:=Ex (iN t g);obtain⟨gs,Qp⟩:=Ex (vS t g);obtain⟨gE,hgE⟩:=Ex (Ny t g);have Mh:Hid (res=if 4<x then(([(gY g).1],true),(gY g).2)else(((kJ x gs).1,false),(kJ x gs).2)):=Ih (by rw[sJ,hx,Qp];rfl);have tq:Hid (gs=if t.kind=2∧4<gE.1+x then mK (4,gE.2)else gE):=Ih (by rw[Qp,hgE,hx];rfl);have GK:Hid (gE=if q=true then mK g else g):=Ih (by rw[hgE,hq];rfl);have HSI:Hid (mO (b+2) gs):=Ih (by rw[Qp];exact Kt t hg);have HEI:Hid (mO (b+1) gE):=Ih (by rw[hgE];exact Ub t hg);rw[←sJ];rw[←hx]at qS Y7;rw[←hq]at KX;unfold fN at qS KX⊢;obtain⟨kd,jT⟩:=Ex t.kind;rw[←jT]at qS KX tq⊢;have Uw:=Ih qS;have HCE:=Ih KX;have eH:=Ih jE;have zR:=Ih hg;have kF:dG w (w.alloc (cY #[cS dA kd,cU t.name,cT v.pn v.nn v.kn,cT v.pp v.np v.kp,cV t.many] 45)):=(aC _ _).alloc (aA _) _;have lK:=Ih kF;clear qS KX jE hg ht hm hx hq sJ Qp hgE jT kF;go_in;go_wp2_with fail;refine(Uw _ lK).mono ?_;rintro y w2 ⟨rfl,eL⟩;have gC:Hid (dG w w2):=Ih (lK.trans (eL.mono Si));have z0:=fV ((eL.block w.heap.size Si).trans (aH w _));have HZ:Hid (w2.heap[w.heap.size]? =some (cY #[cS dA kd,cU t.name,cT v.pn v.nn v.kn,cT v.pp v.np v.kp,cV t.many] 45 (0,0))):=Ih ((eL.block w.heap.size Si).trans (aH w _));have jQ:=Ih ((gC.block pg dH).trans eH);(have D9:w.heap.size<w2.heap.size:=by have:=eL.size;simp at this;omega);clear eL;by_cases h4:4<x;(·obtain⟨l,hl⟩:=Ex ((gY g).1);have eO:=Jt pg g b w2 jQ zR Om;have HF:Hid (res=(([l],true),(gY g).2)):=Ih (by rw[Mh.out,if_pos h4,hl]);rw[←hl]at eO;obtain⟨lb,ln⟩:=l;unfold sF at eO;simp only at eO;have HC:=Ih eO;clear eO hl HCE;go_wp2_with fail;refine HC.mono ?_;rintro y w3 ⟨rfl,hZ,zK⟩;have kU:=Ih hZ;have Ac:=Ih ((Ky gC (some pg)).trans zK);clear hZ zK HC;go_wp2_with fail;go_ret2;exact⟨cT (some ⟨w3.heap.size,0,none⟩) 1 1,by rw[HF.out];rfl,by rw[HF.out];exact ID (xs:=[cV lb,cS dA (ln:Nat)]) (n:=1) Ac.size rfl De,by rw[HF.out];exact dX _ kU,Ac.trans (World.grownBy_alloc _ _ _)⟩);(·have Dm:Hid (res=(((kJ x gs).1,false),(kJ x gs).2)):=Ih (by rw[Mh.out,if_neg h4]);have h4i:¬(4:Int)<x:=Om;go_wp2_with fail;refine(HCE _ gC).mono ?_;rintro y w3 ⟨rfl,hZ⟩;have kU:=Ih (Tm gC hZ);have z0:=fV ((hZ.block w.heap.size D9).trans HZ);have N3:=Ih ((hZ.block w.heap.size D9).trans HZ);have zN:=Ih ((kU.block pg dH).trans eH);have hpgn:pg≠w.heap.size:=Om;clear hZ HZ jQ HCE Uw;cases q;(·have HE:Hid (gE=g):=Ih (by rw[GK.out];rfl);(have hXE:w3.heap[pg]? =some (jP gE):=by rw[HE.out];exact zN);have MC:=Ih hXE;have NA:Hid (w.grownBy w3 (some pg)):=Ih (Ky kU _);clear hXE zN HE GK;obtain⟨r1,p1⟩:=gE;obtain⟨he1,FP⟩:=HEI;simp only at he1 FP;have c0:=xJ (MC.trans rfl);have iU:=dB MC;by_cases oE:kd=2;(·have FK:(kd==2)=true:=beq_iff_eq.2 oE;by_cases hr:4<r1+x;(·have Mp:Hid (gs=mK (4,p1)):=Ih (by rw[tq.out,if_pos ⟨oE,hr⟩]);have ld:(4:Int)<(r1:Int)+x:=Om;clear oE;go_wp2_with fail;have hX5:(w3.setCell ⟨pg,0,none⟩ (cS dA 4)).heap[pg]? =some (jP (4,p1)):=(Wk (MC.trans rfl) _).trans rfl;exact V145);(·have Mp:Hid (gs=(r1,p1)):=Ih (by rw[tq.out,if_neg (fun h=>hr h.2)]);have ld:¬(4:Int)<(r1:Int)+x:=Om;exact V337));(·have Mp:Hid (gs=(r1,p1)):=Ih (by rw[tq.out,if_neg (fun h=>oE h.1)]);have FK:(kd==2)=false:=beq_eq_false_iff_ne.2 oE;exact V337));(·have HE:Hid (gE=mK g):=Ih (by rw[GK.out];rfl);have HC:=Ih (Ll pg g b w3 zN zR Om);go_wp2_with fail;refine HC.mono ?_;rintro y w4 ⟨rfl,jO,zW⟩;have MC:Hid (w4.heap[pg]? =some (jP gE)):=Ih (by rw[HE.out];exact jO);have NA:Hid (w.grownBy w4 (some pg)):=Ih ((Ky kU _).trans zW);have z0:=fV ((zW.block w.heap.size (dB N3) Sv).trans N3);clear jO zW HC zN HE GK N3;obtain⟨r1,p1⟩:=gE;obtain⟨he1,FP⟩:=HEI;simp only at he1 FP;have c0:=xJ (MC.trans rfl);have iU:=dB MC;by_cases oE:kd=2;(·have FK:(kd==2)=true:=beq_iff_eq.2 oE;by_cases hr:4<r1+x;(·have Mp:Hid (gs=mK (4,p1)):=Ih (by rw[tq.out,if_pos ⟨oE,hr⟩]);have ld:(4:Int)<(r1:Int)+x:=Om;clear oE;go_wp2_with fail;have hX5:(w4.setCell ⟨pg,0,none⟩ (cS dA 4)).heap[pg]? =some (jP (4,p1)):=(Wk (MC.trans rfl) _).trans rfl;exact V145);(·have Mp:Hid (gs=(r1,p1)):=Ih (by rw[tq.out,if_neg (fun h=>hr h.2)]);have ld:¬(4:Int)<(r1:Int)+x:=Om;exact V338));(·have Mp:Hid (gs=(r1,p1)):=Ih (by rw[tq.out,if_neg (fun h=>oE h.1)]);have FK:(kd==2)=false:=beq_eq_false_iff_ne.2 oE;exact V338)))
theorem Ix (l:List Int) (p:Option Addr) (n gN:Nat) (regs:Int) (w:World) (hl:l.length=n) (hn:n≤9223372036854775807) (h:SliceAt w dA p l):
 O U 122 #[cT p n gN,cS dA regs] w fun e w'=>e=cZ (cV (Td regs l))∧w=w':=by obtain⟨t,ht⟩:=Ex (Td regs l);rw[←ht];have HT:=Ih ht;have HL:=Ih hl;have HC:=Ih h;clear ht hl h;go_in;go_wp2_with fail;go_loopg[9] n (fun gk i wr=>∃k:Nat,k≤n∧gk=n-k∧i=cS dA k∧w=wr∧∀j (h:j<l.length),j<k→0≤l[j]∧l[j]<regs);(case atStart=>exact⟨0,by omega,rfl,rfl,rfl,fun _ _ h=>absurd h Om⟩);(case round=>have Zde:=0;exact V309)
def rowV (r:Row):Value:=cX #[cS dA r.d,cS dA r.s,cV r.n,cS dA r.least,cS dA r.most,cV r.name,cV r.typ]
theorem Ul {t:TypeId} (h:w.heap[b]? =some (cY #[v0,v1,v2,v3,v4,v5,v6] t (0,0))):
 w.cell? ⟨b,0,none⟩=some v0∧w.cell? ⟨b,1,none⟩=some v1∧w.cell? ⟨b,2,none⟩=some v2∧w.cell? ⟨b,3,none⟩=some v3∧w.cell? ⟨b,4,none⟩=some v4∧w.cell? ⟨b,5,none⟩=some v5∧w.cell? ⟨b,6,none⟩=some v6∧∀o,w.frozen? ⟨b,o,none⟩=false:=
 ⟨cell_of_row w b 0 _ _ _ h,cell_of_row w b 1 _ _ _ h,cell_of_row w b 2 _ _ _ h,cell_of_row w b 3 _ _ _ h,cell_of_row w b 4 _ _ _ h,cell_of_row w b 5 _ _ _ h,cell_of_row w b 6 _ _ _ h,fun o=>by simp[bN,h]⟩
theorem gU (hb:b<w.heap.size) (v0 v1 v2 v3 v4 v5 v6:Value) (o:Obj):
 Below b w ((((((((w.setCell ⟨b,0,none⟩ v0).setCell ⟨b,1,none⟩ v1).setCell ⟨b,2,none⟩ v2).setCell ⟨b,3,none⟩ v3).setCell ⟨b,4,none⟩ v4).setCell ⟨b,5,none⟩ v5).setCell ⟨b,6,none⟩ v6).alloc o):=by have h0:=(aC b w).setCell (p:=⟨b,0,none⟩) (aA _) v0;have h1:=h0.setCell (p:=⟨b,1,none⟩) (aA _) v1;have h2:=h1.setCell (p:=⟨b,2,none⟩) (aA _) v2;have h3:=h2.setCell (p:=⟨b,3,none⟩) (aA _) v3;have h4:=h3.setCell (p:=⟨b,4,none⟩) (aA _) v4;have h5:=h4.setCell (p:=⟨b,5,none⟩) (aA _) v5;have h6:=h5.setCell (p:=⟨b,6,none⟩) (aA _) v6;exact h6.alloc (aG (Nat.le_of_lt hb) h6.size) o
theorem SL (b:oJ) (v:BV) (op:Int) (m:Int) (w:World) (hb:BodAt w b v) (hm:Mx m w) (hp:1≤b.ty.parts.length):
 O U 121 #[gG v b,cS dA op] w (RB w (.tuple #[rowV (rowOf (mH b.ty) b.ty.many b.code.length op).1,cV (rowOf (mH b.ty) b.ty.many b.code.length op).2])):=by obtain⟨e,ht⟩:=hb.ty;obtain⟨c,co,gP,hc,dO⟩:=ht.rows Om;have mE:=ht.in.pb;have lB:=Ih ht.in.pl;have gQ:=hb.cl;have zL:v.nc≤9223372036854775807:=aG hb.ck hb.cb;rw[gQ];unfold gG;obtain⟨pt,iD⟩:=Ex (b.ty.parts[b.ty.parts.length-1]'Om);obtain⟨pv,e',dM,fD⟩:=dO (b.ty.parts.length-1) Om;rw[←iD]at dM fD;obtain⟨rt,JP⟩:=Ex (mH b.ty);have GA:Hid (dQ pt=rt):=Ih (by rw[JP];unfold mH;rw[aB Om,←iD]);rw[←JP];have eO:=fun w' hb=>kV pt pv e' m w' (fD.below hb) (hm.below hb);rw[GA.out]at eO;unfold fN at eO;have HC:=Ih eO;have mN:Hid (w.rangeAt c (co+(v.tv.np-1)*5) (TV.cells pv pt)):=Ih (by rw[←lB.out];exact dM);obtain⟨nm,fG⟩:=Ex b.name;obtain⟨st,rV⟩:=Ex b.static;obtain⟨kd,jT⟩:=Ex b.ty.kind;obtain⟨tn,Nn⟩:=Ex b.ty.name;obtain⟨mn,lY⟩:=Ex b.ty.many;obtain⟨rg,mD⟩:=Ex b.regs;obtain⟨tv,Ti⟩:=Ex v.tv;obtain⟨pc,hpcc⟩:=Ex v.pc;obtain⟨nc,jA⟩:=Ex v.nc;obtain⟨kc,oU⟩:=Ex v.kc;rw[←fG,←rV,←jT,←Nn,←lY,←mD,gP,←Ti,←hpcc,←jA,←oU];rw[←Ti]at mE lB mN;rw[←jA]at zL;obtain⟨np,nU⟩:=Ex tv.np;rw[←nU]at mE lB mN⊢;(have hnp1:1≤np:=by rw[←lB.out];exact hp);clear hb hm ht dO dM fD iD JP eO fG rV jT Nn lY mD Ti hpcc jA oU nU gP hp gQ;obtain⟨n,hn⟩:∃n,np=n+1:=⟨np-1,by omega⟩;have Z8x:=0;exact V177
end
end Go.Proofs.YtfbmaffacikgbaaGreat
