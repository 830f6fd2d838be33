/- A part of the proof of EmitSays. -/
import Derived.Test.YtfbmaffacikgbaaGreatA2
import Derived.Test.YtfbmaffacikgbaaGreatA3
set_option maxRecDepth 100000
set_option maxHeartbeats 4000000
set_option linter.unusedVariables false
set_option linter.unusedSimpArgs false
open Go renaming Calls→O
open Go.Proofs.Tryz renaming prog→U
open Nat renaming le_refl→aA,lt_of_lt_of_le→aF,le_trans→aG,zero_le→aJ
open List renaming getElem?_eq_getElem→aB,length_append→aD,getElem_mem→aE,length_map→aI,mem_singleton→aK,take_succ_eq_append_getElem→aL,length_cons→aM,getD_eq_getElem?_getD→aN,length_take→aO,mem_cons_of_mem→aP,getElem_of_mem→aQ,map_append→aS,length_nil→aT,mem_cons_self→aU,take_of_length_le→aY,not_mem_nil→aZ,map_cons→bC,getElem?_append_right→bD,mem_cons→bF,getElem?_map→bH,nil_append→bJ,append_assoc→bP,set_cons_succ→bS,setIfInBounds_toArray→bX,mem_singleton_self→bY,set_cons_zero→bZ,foldl_cons→cA,replicate→cC,getElem_map→cH,flatMap_cons→cL,map_nil→cM,length_set→cQ
open Go.RowKit.Below renaming refl→aC,heap_setCell→bV
open Go.World renaming alloc_heap_new→aH,ownsRow_nil→bE,frozen?→bN,cell?_alloc_lt→bO,cell?_of_block→bT,setCell→cN
open Go.Lib renaming alloc_old→aR
open Go.Value renaming slice→aW,int→bL,string→cE,ownBlock→cO
open Go.IntWalk renaming i64_in→aX
open Go.Proofs.Tryz renaming underlying3→bG,underlying4→bQ,underlying9→bW
open And renaming intro→bM
open Go.Result renaming andThen→cG
open Go.Value renaming int→cS
open Go.Value renaming slice→cT
open Go.Value renaming string→cU
open Go.Value renaming bool→cV
open Go.Value renaming pointer→cW
open Go.Value renaming agg→cX
open Go.Obj renaming cells→cY
open Go.Ending renaming returned→cZ
open Go.IntKind renaming i64→dA
namespace Go.Proofs.YtfbmaffacikgbaaGreat
variable {w W w' w1 wr w2 w0 wx:World} {B r k ns i base size d bm n' k' co bg b:Nat} {v va v1 v0 v3 v5 v7 v9 vl v':Value} {e:TypeId} {chg:List TypeId} {xs vs:List Value} {l:List Int} {a:Act} {P:Program} {p pd ps:Option Addr} {bs:List Nat} {L:List (List Int)} {cs:Array Value} {s:ByteArray} {x:Int}
section
open Go.RowKit Go.Shelf Ob Ty
def jR (l:List Int):List Value:=l.map fun r=>cS dA r
theorem Y1 (l:List Int):(jR l).length=l.length:=aI _
theorem qd:tL U 69 3 1:=kP (z:=.int .i64 0) (bytes:=8) Tryz.underlying69 Kr De De De
theorem qC {n c:Nat} (h:SliceAt w dA p l) (hl:l.length=n) (hn:n≤9223372036854775807) (x:Int):
 O U 65 #[cT p n c,cS dA x] w fun e w'=>e=cZ (cV (l.contains x))∧w=w':=by by_cases h0:n=0;(·subst h0;have:l=[]:=List.eq_nil_of_length_eq_zero hl;subst this;exact(Tryz.slices_Contains_int_empty p c x w).mono fun _ _ ⟨e,h⟩=>⟨by rw[e];rfl,h.symm⟩);(·rcases h with h|⟨b,vK,rfl,hb,hc⟩;(·omega);(·refine(Tryz.slices_Contains_int b vK n c l x w Om hn fun j hj=>?_).mono fun _ _ ⟨e,h⟩=>⟨by rw[e,←hl,List.take_length],h.symm⟩;rw[hc j hj]))
theorem Qb (code:List Ord) (i:Nat) (p:Option Addr) (n k:Nat) (w:World) (hc:OrdsAt w p code) (hl:code.length=n) (hk:n≤k) (oE:k≤9223372036854775807) (hi:i<n) (hn:n≤1000000):
 O U 103 #[cT p n k,cS dA (i:Nat)] w fun x w'=>∃v,x=cZ v∧w'.ownsRow w.heap.size 3 1 v (jD (code[i]'Om) i).length (jR (jD (code[i]'Om) i))∧dG w w':=by obtain⟨c,co,rfl,gQ,dM⟩:=hc.get Om;obtain⟨v,h1,h2⟩:=dM i Om;obtain⟨o,ho⟩:=Ex (code[i]'Om);rw[←ho]at h1 h2⊢;obtain⟨z0,z1,z2,z3,z4,z5,z6,z7,z8,z9⟩:=jY (aC _ _) gQ h1;obtain⟨l,sL⟩:=Ex (jD o i);have HL:=Ih sL;rw[←sL];have qA:(i:Int)<n:=Om;have zV:(n:Int)≤k:=Om;clear sL ho h1 h2 dM hc;obtain⟨op,fL⟩:=Ex o.op;obtain⟨N,hN⟩:=Ex o.n;have Bp:Hid (l=if op=12 then []else if op=9 then [N]else if op=10 then [(i:Int)+1,N]else [(i:Int)+1]):=Ih (by rw[HL.out,fL,hN];rfl);rw[←fL]at z0;rw[←hN]at z3;clear HL fL hN;by_cases k1:op=12;(·subst k1;have HF:Hid (l=[]):=Ih (by rw[Bp.out,if_pos rfl]);clear Bp;go_in;go_wp2_with fail;go_ret;exact⟨_,rfl,by rw[HF.out];exact bE _ _ _ _,(aC _ _).alloc (aA _) _⟩);(·have e1:(op==12)=false:=beq_eq_false_iff_ne.2 k1;by_cases k2:op=9;(·subst k2;have HF:Hid (l=[N]):=Ih (by rw[Bp.out,if_neg k1,if_pos rfl]);clear Bp k1;go_in;go_wp2_with fail;go_ret;refine⟨_,rfl,?_,((aC _ _).alloc (aA _) _).alloc Si _⟩;rw[HF.out];refine Jl (n:=1) (size:=1) [cS dA N] ?_ ?_ rfl De;(·simp);(·omega));(·have e2:(op==9)=false:=beq_eq_false_iff_ne.2 k2;by_cases k3:op=10;(·subst k3;have HF:Hid (l=[(i:Int)+1,N]):=Ih (by rw[Bp.out,if_neg k1,if_neg k2,if_pos rfl]);clear Bp k1 k2;go_in;go_wp2_with fail;go_ret;refine⟨_,rfl,?_,((aC _ _).alloc (aA _) _).alloc Si _⟩;rw[HF.out];refine Jl (n:=2) (size:=1) [cS dA ((i:Int)+1),cS dA N] ?_ ?_ rfl De;(·simp);(·omega));(·have e3:(op==10)=false:=beq_eq_false_iff_ne.2 k3;have HF:Hid (l=[(i:Int)+1]):=Ih (by rw[Bp.out,if_neg k1,if_neg k2,if_neg k3]);clear Bp k1 k2 k3;go_in;go_wp2_with fail;go_ret;refine⟨_,rfl,?_,((aC _ _).alloc (aA _) _).alloc Si _⟩;rw[HF.out];refine Jl (n:=1) (size:=1) [cS dA ((i:Int)+1)] ?_ ?_ rfl De;(·simp);(·omega))))
theorem mB {Gw:Nat} {n:Nat} (h:w.ownsRow base e size v n xs) (hb:Gw≤base):w.ownsRow Gw e size v n xs:=
 ⟨h.1,h.2.imp id fun⟨g,gN,mU,h1,h2,h3⟩=>⟨g,gN,mU,h1,aG hb h2,h3⟩⟩
theorem pF {q:Obj} (o:Obj) (h:w.heap[b]? =some q):(w.alloc o).heap[b]? =some q:=(aR w o b (dB h)).trans h
def Cu (b:Nat):Value:=.map (some b)
def Ag (l:List (Int×Nat)):List Value:=l.flatMap fun x=>[cS dA x.1,cS dA (x.2:Nat)]
theorem Iw (l:List (Int×Nat)) (x:Int×Nat):Ag (l++[x])=Ag l++[cS dA x.1,cS dA (x.2:Nat)]:=by unfold Ag;rw[List.flatMap_append];rfl
theorem CK:tL U 108 112 2:=kP (z:=.agg #[.int .i64 0,.int .i64 0]) (bytes:=16) Tryz.underlying108 Kr De De De
structure SetsAt (w:World) (base n:Nat) (v:Value) (bs:List Nat) (L:List (List Int)):Prop where
 row:w.ownsRow base 144 1 v n (bs.map Cu)
 bl:bs.length=n
 ll:L.length=n
 nb:bs.Nodup
 sets:∀i (h:i<bs.length),base≤bs[i]∧fR w bs[i] (L.getD i []).length (L.getD i [])
structure LvAt (w:World) (base b3 b9 n:Nat) (v3 v9:Value) (bs:List Nat) (s:WS):Prop where
 inb:w.heap[b3]? =some (cY #[v3] 145 (0,0))
 wkb:w.heap[b9]? =some (cY #[v9] 108 (0,0))
 wkr:w.ownsRow base 112 2 v9 s.work.length (Ag s.work)
 sets:SetsAt w base n v3 bs s.L
 o3:base≤b3
 o9:base≤b9
theorem dS {n:Nat} (h:fR w b n l):b<w.heap.size∧∀(cs:Array Value) (t:TypeId) (fz:Nat×Nat),w.heap[b]?≠some (Obj.cells cs t fz):=by obtain⟨es,cl,h,_⟩:=h;exact⟨dB h,fun cs t fz e=>by rw[h]at e;cases e⟩
theorem gT {n:Nat} (h:fR w b n l) (hb:w'.heap[b]? =w.heap[b]?):fR w' b n l:=by obtain⟨es,cl,h1,h2⟩:=h;exact⟨es,cl,hb.trans h1,h2⟩
theorem SetsAt.fr {n:Nat} (h:SetsAt w base n v bs L) (f:EFr B chg w w') (hc:144∉chg):SetsAt w' base n v bs L:=
 ⟨f.row h.row hc,h.bl,h.ll,h.nb,fun i hi=>⟨(h.sets i hi).1,gT (h.sets i hi).2 (f.block _ (dS (h.sets i hi).2).1 (.inr fun cs t fz e=>absurd e ((dS (h.sets i hi).2).2 cs t fz)))⟩⟩
theorem A5 {l:List Nat} (h:l.Nodup) {j:Nat} (hi:i<l.length) (hj:j<l.length) (e:l[i]=l[j]):i=j:=by have hp:=List.pairwise_iff_getElem.1 (List.nodup_iff_pairwise_ne.1 h);rcases Nat.lt_trichotomy i j with h1|h1|h1;(·exact absurd e (hp i j hi hj h1));(·exact h1);(·exact absurd e.symm (hp j i hj hi h1))
theorem SetsAt.upd {n:Nat} (h:SetsAt w base n v bs L) {a:Nat} (ha:a<bs.length) (hg:w.grownBy w' (some bs[a])) (hs:fR w' bs[a] l.length l):SetsAt w' base n v bs (L.set a l):=by refine⟨dR h.row fun g cs e=>hg.block g (dB e) fun e'=>?_,h.bl,by rw[cQ];exact h.ll,h.nb,fun i hi=>?_⟩;(·injection e' with e';rw[e']at e;exact(dS (h.sets a ha).2).2 _ _ _ e);(·rw[lS (by rw[h.ll,←h.bl];exact ha)];by_cases e:i=a;(·subst e;rw[if_pos rfl];exact⟨(h.sets i hi).1,hs⟩);(·exact V315))
theorem LvAt.fr {b3 b9 n:Nat} {s:WS} (h:LvAt w base b3 b9 n v3 v9 bs s) (f:EFr B chg w w') (h1:145∉chg) (h2:108∉chg) (h3:112∉chg) (h4:144∉chg):LvAt w' base b3 b9 n v3 v9 bs s:=
 ⟨f.obj h.inb h1,f.obj h.wkb h2,f.row h.wkr h3,h.sets.fr f h4,h.o3,h.o9⟩
theorem Zl (base b3 b9 n:Nat) (v3 v9:Value) (bs:List Nat) (s:WS) (r:Int) (a:Nat) (w:World) (h:LvAt w base b3 b9 n v3 v9 bs s) (ha:a<n) (hn:n≤1000000) (hr:lJ r) (hL:∀i,(s.L.getD i []).length≤100000) (hwk:s.work.length≤900000) (hB:base≤w.heap.size):
 O U 111 #[cS dA r,cS dA (a:Nat),cW (some ⟨b3,0,none⟩),cW (some ⟨b9,0,none⟩)] w fun x w'=>x=cZ (.tuple #[])∧∃EW,LvAt w' base b3 b9 n v3 EW bs (kK r a s)∧EFc base [108,112] w w'∧(∀b,b<w.heap.size→b≠b9→some b≠v9.ownBlock→b∉bs→w'.heap[b]? =w.heap[b]?)∧∀g,EW.ownBlock=some g→v9.ownBlock=some g∨w.heap.size≤g:=by
 (have Yn:a<bs.length:=by rw[h.sets.bl];exact ha);obtain⟨g3,k3,rfl,pK,hk3m,zK,hg3l,yI⟩:=eN h.sets.row Om;have Qr:=yI a _ (by rw[bH,aB Yn];rfl);obtain⟨yJ,jB⟩:=h.sets.sets a Yn;obtain⟨bm,oL⟩:=Ex (bs[a]);obtain⟨l,hl⟩:=Ex (s.L.getD a []);rw[←oL]at Qr yJ jB;rw[←hl]at jB;unfold Cu at Qr;obtain⟨i0,if0⟩:=dE h.inb;obtain⟨w0,wf0⟩:=dE h.wkb;have gJ:=tZ jB hr;obtain⟨q,hq⟩:=Ex (l.contains r);rw[←hq]at gJ;obtain⟨p9,k9,rfl,-,-⟩:=dI h.wkr;have hai:(a:Int)<n:=Om;(have M6:l.length≤100000:=by rw[hl];exact hL a);have H:=Ih h;have iO:=Ih jB;have HR:=Ih hr;have bw:=Ih oL;have yo:=Ih hl;have HQ:=Ih hq;have tP:=dB h.wkb;have zV:(n:Int)≤k3:=Om;unfold maxLen at hk3m;clear h yI jB hr oL hl hq hL;cases q
 ·have uP:Hid (kK r a s=⟨s.L.set a (l++[r]),s.work++[(r,a)]⟩):=Ih (by unfold kK;rw[←yo.out,if_neg (by rw[←HQ.out];simp)]);go_in
  go_wp2_with (first
   |(at_mapUpdate;refine wpList_mapUpdate_own (H:=Unit) _ rfl _ _ _ 144 rfl 3 4 (Maps.int_keyed bG) Tryz.underlying144 _ bm l.length _ rfl iO (by unfold maxLen;omega) _ _ (.int .i64 r) rfl rfl (Maps.keyOf_int_mk bG (Rx HR)) (.lit (.bool true)) [] (plainElem_bool bQ true) ?_;intro w3 hown3 hgrow3;have Ab:=Ih hown3;have Ac:=Ih hgrow3;have HFm:Hid (∀(b:Nat) (cs:Array Value) (t:TypeId),w.heap[b]? =some (Obj.cells cs t (0,0))→w3.heap[b]? =some (Obj.cells cs t (0,0))):=Ih (fun b cs t e=>(hgrow3.block b (dB e) (fun e'=>by injection e' with e';rw[e']at e;exact(dS iO).2 _ _ _ e)).trans e);obtain⟨w0,wf0⟩:=dE (HFm _ _ _ H.wkb);have tP:=dB (HFm _ _ _ H.wkb);have HWR:Hid (w3.ownsRow base 112 2 (.slice p9 s.work.length k9) s.work.length (Ag s.work)):=Ih (dR H.wkr fun g cs e=>(HFm _ _ _ e).trans e.symm);have cy:=hgrow3.size;clear hown3 hgrow3)
   |(at_builtin;refine sD CK _ _ Rf Rf base (cT p9 s.work.length k9) s.work.length (Ag s.work) Rf (HWR.alloc _) w3.heap.size [cS dA r,cS dA (a:Nat)] Rf (heap_alloc_new w3 _) rfl (by intro u hu;simp only[bF,aZ,or_false]at hu;rcases hu with rfl|rfl<;>rfl) Om Sv ?_;intro v' w4 eM;obtain⟨p4,k4,rfl,-,-⟩:=dI eM.own;have rE:=Ih eM;have Fp:Hid (EFr base [112] w3 w4):=Ih ((EFr.of ((aC _ _).alloc (aA _) _)).trans (eM.fr (HWR.alloc _) (aA _) Si));obtain⟨w0,wf0⟩:=dE (Fp.obj (HFm _ _ _ H.wkb) De);have tP:=dB (Fp.obj (HFm _ _ _ H.wkb) De);clear eM))
  go_end0
  have hS3:=H.sets.upd Yn (by rw[←bw.out];exact Ac) (l:=l++[r]) (by
   rw[←bw.out]
   unfold fR
   rw[tY,aD]
   exact Ab)
  have f5:EFr base [108] w4 (w4.setCell ⟨b9,0,none⟩ (cT p4 (s.work.length+1) k4)):=EFr.set (Fp.obj (HFm _ _ _ H.wkb) De) H.o9 Si 0 _;refine⟨rfl,cT p4 (s.work.length+1) k4,?_,((EFc.map Ac (dS iO).2 yJ).trans ((Fp.mono Si).trans (f5.mono Si)).c),fun b hb h1 h2 h3=>?_,fun g hg=>?_⟩;rotate_left
  ·have e3:=Ac.block b hb (fun e=>by
    injection e with e
    exact h3 (by rw[e,bw.out];exact aE Yn))
   have cy:=Ac.size;rw[bV _ _ _ b h1,rE.out.grow.block b Sv h2,aR _ _ _ Om,e3]
  (·rcases rE.blk with e|e;(·exact .inl (e▸hg));(·have cy:=Ac.size;rw[hg]at e;injection e with e;right;simp at e;omega));rw[uP.out]
  exact⟨f5.obj (Fp.obj (HFm _ _ _ H.inb) De) De,eF (Fp.obj (HFm _ _ _ H.wkb) De) 0 _,by
   rw[Iw,aD]
   exact f5.row rE.own De,(hS3.fr Fp De).fr f5 De,H.o3,H.o9⟩
 (·have uP:Hid (kK r a s=s):=Ih (by unfold kK;rw[←yo.out,if_pos HQ.out.symm]);go_in;go_wp2_with fail;refine bodyPost_ret (results_none rfl _ _ _) rfl ?_;exact⟨rfl,_,by rw[uP.out];exact H,EFc.refl _ _ _,fun _ _ _ _ _=>rfl,fun g hg=>.inl hg⟩)
theorem WY:tL U 210 69 1:=kP (z:=.slice none 0 0) (bytes:=24) Tryz.underlying210 Kr De De De
structure FrAt (w:World) (base n:Nat) (v:Value) (vs:List Value) (F:List (List Int)):Prop where
 row:w.ownsRow base 69 1 v n vs
 fl:F.length=n
 each:∀k,k<n→∃vk,vs[k]? =some vk∧w.ownsRow base 3 1 vk (F.getD k []).length (jR (F.getD k []))
 apart:∀(k k':Nat) (vk ep:Value),vs[k]? =some vk→vs[k']? =some ep→k≠k'→vk.ownBlock=none∨vk.ownBlock≠ep.ownBlock
theorem FrAt.fr {n:Nat} {F:List (List Int)} (h:FrAt w base n v vs F) (f:EFc B chg w w') (h1:69∉chg) (h2:3∉chg):FrAt w' base n v vs F:=
 ⟨f.row h.row h1,h.fl,fun k hk=>by obtain⟨vk,e,ho⟩:=h.each k hk;exact⟨vk,e,f.row ho h2⟩,h.apart⟩
theorem uo {n:Nat} {u:Value} (h:w.ownsRow base e size v n xs) (hg:w.grownBy w' u.ownBlock) (fM:v.ownBlock=none∨v.ownBlock≠u.ownBlock):w'.ownsRow base e size v n xs:=by rcases h.2 with h0|⟨g,gN,mU,rfl,h1,h2,h3⟩;(·exact⟨h.1,.inl h0⟩);(·refine⟨h.1,.inr ⟨g,gN,mU,rfl,h1,(hg.block g (dB h2) fun e=>?_).trans h2,h3⟩⟩;rcases fM with fM|fM;(·simp[cO]at fM);(·exact fM e))
theorem FrAt.app {n g4 c4:Nat} {F:List (List Int)} (h:FrAt w base n (cT (some ⟨g4,0,none⟩) n c4) vs F) (hk:k<n) {vk ep:Value} (hvk:vs[k]? =some vk) (i:Nat)
 (hb:dG w w1) (ha:App w1 w2 base 3 1 vk ep (F.getD k []).length (jR (F.getD k [])) [cS dA (i:Nat)]) (hw:w2.setCell ⟨g4,k,none⟩ ep=w'):
 FrAt w' base n (cT (some ⟨g4,0,none⟩) n c4) (vs.set k ep) (tK i F (k:Nat)):=by subst hw;have f1:EFc 0 [] w w1:=(EFr.of (B:=0) (chg:=[]) hb).c;have h1:=h.fr f1 Si Si;have dU:=(h.each k hk);obtain⟨vk0,e0,ho⟩:=h1.each k hk;rw[hvk]at e0;injection e0 with e0;subst e0;(have hvl:vs.length=n:=by have:=h.row.1;omega);have f2:EFr 0 [3] w1 w2:=ha.fr ho (aJ _) Si;have oT:=f2.row h1.row De;obtain⟨hrow3,zK⟩:=oT.stored k ep;have vR:∀{b:Nat} {cs:Array Value},w2.heap[b]? =some (Obj.cells cs 3 (0,0))→(w2.setCell ⟨g4,k,none⟩ ep).heap[b]? =some (Obj.cells cs 3 (0,0)):=fun{b cs} e=>(zK.block b (dB e) (fun e'=>kA oT e De e')).trans e;refine⟨hrow3,by rw[Mc];exact h.fl,fun q hq=>?_,?_⟩;(·by_cases e:q=k;(·subst e;refine⟨ep,by rw[List.getElem?_set_self Om],?_⟩;(have e2:(tK i F (q:Nat)).getD q []=F.getD q []++[(i:Int)]:=by unfold tK;rw[Int.toNat_natCast,lS (by rw[h.fl];exact hk),if_pos rfl]);rw[e2,aD];have:=dR ha.own (w':=w2.setCell ⟨g4,q,none⟩ ep) fun g cs e=>(vR e).trans e.symm;unfold jR;rw[aS];exact this);(·obtain⟨vq,eq,hoq⟩:=h1.each q hq;refine⟨vq,by rw[List.getElem?_set_ne (fun e'=>e e'.symm)];exact eq,?_⟩;(have e2:(tK i F (k:Nat)).getD q []=F.getD q []:=by unfold tK;rw[Int.toNat_natCast,lS (by rw[h.fl];exact hk),if_neg e]);rw[e2];exact dR (uo hoq ha.grow (h.apart q k vq vk eq hvk e)) fun g cs e=>(vR e).trans e.symm));(·(have BE:∀q vq,vs[q]? =some vq→q≠k→vq.ownBlock=none∨vq.ownBlock≠ep.ownBlock:=by intro q vq eq fM;rcases ha.blk with e|e;(·rw[e];exact h.apart q k vq vk eq hvk fM);(·by_cases hn:vq.ownBlock=none;(·exact .inl hn);(·right;(have zU:q<n:=by rw[←hvl];exact(List.getElem?_eq_some_iff.1 eq).1);obtain⟨vq',eq',hoq⟩:=h1.each q zU;rw[eq]at eq';injection eq' with eq';subst eq';rw[e];intro e3;have:=(hoq.lt _ e3).2;omega)));intro q q' vq vq' hq AG fM;rw[List.getElem?_set]at hq AG;by_cases e:k=q;(·rw[if_pos e]at hq;split at hq;(·injection hq with hq;rw[if_neg (fun e'=>fM (e▸e'))]at AG;subst hq;have:=BE q' vq' AG (fun e'=>fM (by rw[←e,e']));rcases this with h'|h';(·by_cases hn:ep.ownBlock=none;(·exact .inl hn);(·right;rw[h'];exact hn));(·exact .inr fun e'=>h' e'.symm));(·cases hq));(·rw[if_neg e]at hq;by_cases e':k=q';(·rw[if_pos e']at AG;split at AG;(·injection AG with AG;subst AG;exact BE q vq hq (fun h=>e h.symm));(·cases AG));(·rw[if_neg e']at AG;exact h.apart q q' vq vq' hq AG fM)))
structure Set1 (w wr:World) (b3 g3 g4 n:Nat) (bc:Array Value) (bs:List Nat) (vs:List Value) (F:List (List Int)):Prop where
 bel:dG w wr
 body:wr.heap[w.heap.size]? =some (cY bc 48 (0,0))
 inb:wr.heap[b3]? =some (cY #[cT (some ⟨g3,0,none⟩) n n] 145 (0,0))
 inr:wr.ownsRow w.heap.size 144 1 (cT (some ⟨g3,0,none⟩) n n) n (bs.map Cu++cC (n-bs.length) (Value.map none))
 nb:bs.Nodup
 sets:∀i (h:i<bs.length),w.heap.size≤bs[i]∧fR wr bs[i] 0 []
 fr:FrAt wr w.heap.size n (cT (some ⟨g4,0,none⟩) n n) vs F
theorem Set1.fr' {b3 g3 g4 n:Nat} {bc:Array Value} {F:List (List Int)} (h:Set1 w wr b3 g3 g4 n bc bs vs F) (f:EFr w.heap.size chg wr w') (h1:48∉chg) (h2:145∉chg) (h3:144∉chg)
 {GS:List Value} {F':List (List Int)} (hf:FrAt w' w.heap.size n (cT (some ⟨g4,0,none⟩) n n) GS F'):Set1 w w' b3 g3 g4 n bc bs GS F':=
 ⟨h.bel.trans (f.below h.bel.size),f.obj h.body h1,f.obj h.inb h2,f.row h.inr h3,h.nb,fun i hi=>⟨(h.sets i hi).1,gT (h.sets i hi).2 (f.block _ (dS (h.sets i hi).2).1 (.inr fun cs t fz e=>absurd e ((dS (h.sets i hi).2).2 cs t fz)))⟩,hf⟩
theorem Set1.more {b3 g3 g4 n:Nat} {bc:Array Value} {F:List (List Int)} (h:Set1 w wr b3 g3 g4 n bc bs vs F) (hl:bs.length<n):
 Set1 w ((wr.alloc (.map #[] 0)).setCell ⟨g3,bs.length,none⟩ (.map (some wr.heap.size))) b3 g3 g4 n bc (bs++[wr.heap.size]) vs F:=by have f1:EFr w.heap.size [144] wr (wr.alloc (.map #[] 0)):=.of ((aC _ _).alloc (aA _) _);have Qg:=h.inr.alloc (.map #[] 0);obtain⟨oT,yG⟩:=Qg.stored bs.length (.map (some wr.heap.size));have zK:w.heap.size≤g3:=(Qg.lt g3 rfl).1;(have f2:EFr w.heap.size [144] (wr.alloc (.map #[] 0)) ((wr.alloc (.map #[] 0)).setCell ⟨g3,bs.length,none⟩ (.map (some wr.heap.size))):=EFr.grown yG fun g e=>by injection e with e;subst e;obtain⟨h1,cs,fz,h2⟩:=lC Qg g3 rfl;exact⟨h1,cs,_,fz,h2,by simp⟩);have f:=f1.trans f2;have hold:∀i (hi:i<bs.length),bs[i]<wr.heap.size:=fun i hi=>(dS (h.sets i hi).2).1;refine⟨h.bel.trans (f.below h.bel.size),f.obj h.body De,f.obj h.inb De,?_,?_,fun i hi=>?_,h.fr.fr f.c De De⟩;(·(have e:(bs.map Cu++cC (n-bs.length) (Value.map none)).set bs.length (.map (some wr.heap.size))=(bs++[wr.heap.size]).map Cu++cC (n-(bs++[wr.heap.size]).length) (Value.map none):=by exact V141);rw[←e];exact oT);(·exact V313);(·exact V47)
structure Set3 (w wr:World) (b3 b9 g4 n:Nat) (bc:Array Value) (v3 v9:Value) (bs:List Nat) (vs:List Value) (F:List (List Int)) (s:WS):Prop where
 bel:dG w wr
 body:wr.heap[w.heap.size]? =some (cY bc 48 (0,0))
 fr:FrAt wr w.heap.size n (cT (some ⟨g4,0,none⟩) n n) vs F
 lv:LvAt wr w.heap.size b3 b9 n v3 v9 bs s
theorem Set3.old {b3 b9 g4 n:Nat} {bc:Array Value} {F:List (List Int)} {s:WS} (h:Set3 w wr b3 b9 g4 n bc v3 v9 bs vs F s) (hb:dG wr w'):Set3 w w' b3 b9 g4 n bc v3 v9 bs vs F s:=
 ⟨Tm h.bel hb,Kb hb h.body,h.fr.fr (EFr.of (B:=0) (chg:=[]) hb).c Si Si,h.lv.fr (EFr.of (B:=0) (chg:=[]) hb) Si Si Si Si⟩
theorem Set3.bk {b3 b9 g4 n:Nat} {bc:Array Value} {EW:Value} {F:List (List Int)} {s s':WS} (h:Set3 w wr b3 b9 g4 n bc v3 v9 bs vs F s) (f:EFc w.heap.size [108,112] wr w') (hl:LvAt w' w.heap.size b3 b9 n v3 EW bs s'):Set3 w w' b3 b9 g4 n bc v3 EW bs vs F s':=
 ⟨h.bel.trans (f.below h.bel.size),f.obj h.body De,h.fr.fr f De De,hl⟩
theorem Set1.done {w wr:World} {b3 g4 n k:Nat} {bc:Array Value} {bs:List Nat} {vs:List Value} {F:List (List Int)} (h:Set1 w wr b3 (w.heap.size+1) g4 n bc bs vs F) (hl:bs.length=n):SetsAt wr w.heap.size n (cT (some ⟨w.heap.size+1,0,none⟩) n n) bs (cC n []):=by refine⟨?_,hl,List.length_replicate,h.nb,fun i hi=>?_⟩;(·have:=h.inr;rw[hl,Nat.sub_self,List.replicate_zero,List.append_nil]at this;exact this);(·(have e:(cC n ([]:List Int)).getD i []=[]:=by exact V414);rw[e];exact h.sets i hi)
theorem C5 (code:List Ord) (regs:Int) (n:Nat) (hn:code.length=n):LvInv code regs (fun _ _ _=>False) ⟨cC n [],[]⟩:=by(have e:∀i,(cC n ([]:List Int)).getD i []=[]:=fun i=>by exact V414);refine⟨by rw[List.length_replicate];exact hn.symm,fun i r h=>?_,fun i r h=>?_,fun i=>?_,fun x h=>(by cases h),fun a r h=>?_⟩;(·rw[e]at h;cases h);(·rw[e]at h;cases h);(·rw[e];simp);(·rw[e]at h;cases h)
theorem II {g gN:Nat} {n:Nat} (h:w.ownsRow base e size (cT (some ⟨g,0,none⟩) n gN) n xs) (hn:n'≤n):w.ownsRow base e size (cT (some ⟨g,0,none⟩) n' gN) n' (xs.take (n'*size)):=by have hl:=h.1;rcases h.2 with⟨h',_⟩|⟨g',CR,mU,h',h1,h2,h3,h4,h5,h6⟩;(·simp at h');(·simp only[Value.slice.injEq,Option.some.injEq,Addr.mk.injEq,and_true,true_and]at h';obtain⟨rfl,rfl⟩:=h';have hm:n'*size≤n*size:=Nat.mul_le_mul_right _ hn;refine⟨by rw[aO,hl];omega,.inr ⟨g,gN,mU,rfl,h1,h2,by omega,h4,h5,?_⟩⟩;rw[←h6,List.take_take,Nat.min_eq_left hm])
theorem za (l:List (Int×Nat)):(Ag l).length=l.length*2:=by
 induction l with
  |nil=>rfl
  |cons x l ih=>
   unfold Ag at ih⊢
   rw[cL,aD,ih,aM]
   simp
   omega
theorem Ep {s:WS} {n regs:Nat} (h:s.left n regs≤k):s.work.length≤k:=by unfold WS.left at h;omega
theorem qV {t:TypeId} (h:w.heap[b]? =some (cY #[v0,v1] t (0,0))):w.cell? ⟨b,0,none⟩=some v0∧w.cell? ⟨b,1,none⟩=some v1∧∀o,w.frozen? ⟨b,o,none⟩=false:=
 ⟨cell_of_row w b 0 _ _ _ h,cell_of_row w b 1 _ _ _ h,fun o=>by simp[bN,h]⟩
theorem py:tL U 145 144 1:=kP (z:=.map none) (bytes:=8) Tryz.underlying145 Kr De De De
theorem uS {z u:Value} (h:∃i,P.info? e=some i∧i.zero=some z) (hu:(P.info? e).map (·.zero)=some (some u)):z=u:=by obtain⟨i,h1,h2⟩:=h;rw[h1,Option.map_some,h2]at hu;injection hu with hu;injection hu
theorem tW (z:Value) (hz:z.cells=#[z]) (n:Nat):(madeCells z.cells (n*1)).toList=cC n z:=by rw[hz,Nat.mul_one,toList_madeCells_one]
theorem Wj (b:oJ) (v:BV) (regs:Nat) (w:World) (hb:BodAt w b v) (iS:regs≤200) (FI:0<v.nc) (hn:v.nc≤200)
 (sL:∀(i:Nat) (o:Ord),b.code[i]? =some o→∀k∈jD o i,0≤k∧k<b.code.length) (hs:∀(i:Nat) (o:Ord),b.code[i]? =some o→∀r∈o.s,Cb regs r):
 O U 73 #[gG v b] w fun x w'=>∃vv bs L,x=cZ vv∧SetsAt w' w.heap.size b.code.length vv bs L∧(∀i r,r∈L.getD i []↔Live b.code i r)∧(∀i r,r∈L.getD i []→Cb regs r)∧(∀i,(L.getD i []).Nodup)∧dG w w':=by
 have gQ:=hb.cl;have qT:=hb.ck;have zL:=hb.cb;have yH:=hb.code;obtain⟨c,co,gP,hc,dM⟩:=yH.get Om;unfold gG;obtain⟨n,wJ⟩:=Ex v.nc;obtain⟨code,vQ⟩:=Ex b.code;obtain⟨kc,oU⟩:=Ex v.kc;obtain⟨bn,xM⟩:=Ex b.name;obtain⟨bt,Fd⟩:=Ex v.tv;rw[gP,←wJ,←oU,←xM,←Fd];rw[gP]at yH;rw[←vQ]at sL hs gQ yH dM⊢;rw[←wJ]at gQ qT FI hn;rw[←oU]at qT zL;have qK:=Ih gQ;have Bp:=Ih sL;have HS:=Ih hs;have mN:=Ih dM;have EN:=Ih yH;have zV:(n:Int)≤kc:=Om;clear hb gQ sL hs dM yH gP wJ vQ oU xM Fd;go_in
 go_wp2_with (first
  |(at_make;go_loud (refine Ka py _ _ Rf Rf w.heap.size n Rf Rf Om Si ?_);intro w1 z hz hown1 hgr1;go_loud (obtain rfl:z=.map none:=uS hz Kr);go_loud (skip);have P0:=Ih hown1;go_loud (have HBD1:Hid (w1.heap[w.heap.size]? =some (cY #[cU bn,cV b.static,cS dA b.ty.kind,cU b.ty.name,cT bt.pn bt.nn bt.kn,cT bt.pp bt.np bt.kp,cV b.ty.many,cS dA b.regs,cT (some ⟨c,co,none⟩) n kc] 48 (0,0))):=Ih ((hgr1.block w.heap.size Si Si).trans (aH w _)));go_loud (have HBE1:Hid (dG w w1):=Ih (((aC _ _).alloc (aA _) _).grown hgr1 Si Si));go_loud (skip);go_loud (obtain⟨z0,z1,z2,z3,z4,z5,z6,z7,z8,zz⟩:=jV HBD1.out);go_loud (have AW:=dB HBD1.out);go_loud (have hl1b:w.heap.size<w1.heap.size+1:=by omega);go_loud (clear hz hown1 hgr1))
  |(at_make;go_loud (refine Ka WY _ _ Rf Rf w.heap.size n Rf Rf Om Sv ?_);intro w2 z hz Gl Kq;go_loud (obtain rfl:z=cT none 0 0:=uS hz Kr);go_loud (have Rm:=Ih Gl);go_loud (have nX:=Ih Kq);go_loud (have HBD2:Hid (w2.heap[w.heap.size]? =some (cY #[cU bn,cV b.static,cS dA b.ty.kind,cU b.ty.name,cT bt.pn bt.nn bt.kn,cT bt.pp bt.np bt.kp,cV b.ty.many,cS dA b.regs,cT (some ⟨c,co,none⟩) n kc] 48 (0,0))):=Ih ((Kq.block w.heap.size Sv Si).trans (pF _ HBD1.out)));go_loud (obtain⟨z0,z1,z2,z3,z4,z5,z6,z7,z8,zz⟩:=jV HBD2.out);go_loud (have hl2:=dB HBD2.out);go_loud (clear hz Gl Kq)))
 have Vl:Hid (Set1 w w2 w1.heap.size (w.heap.size+1) (w1.heap.size+1) n #[cU bn,cV b.static,cS dA b.ty.kind,cU b.ty.name,cT bt.pn bt.nn bt.kn,cT bt.pp bt.np bt.kp,cV b.ty.many,cS dA b.regs,cT (some ⟨c,co,none⟩) n kc] [] (cC n (cT none 0 0)) (iE code 0)):=Ih (by
  have hf:EFr w.heap.size [] (w1.alloc (cY #[cT (some ⟨w.heap.size+1,0,none⟩) n n] 145)) w2:=EFr.grown nX.out Si
  refine⟨(HBE1.out.alloc HBE1.out.size _).grown nX.out (by have:=HBE1.out.size;simp;omega) Si,HBD2.out,hf.obj (aH w1 _) Si,?_,by simp,fun i h=>by simp at h,?_⟩
  ·have h1:=hf.row (P0.out.alloc _) Si
   rw[tW _ rfl]at h1
   simpa using h1
  ·have h2:=Rm.out
   rw[tW _ rfl]at h2
   refine⟨by simpa using h2,by rw[iE,List.length_replicate];exact qK.out,fun k hk=>⟨cT none 0 0,by rw[List.getElem?_replicate,if_pos hk],?_⟩,fun k k' vk ep e _ _=>?_⟩
   ·have e:(iE code 0).getD k []=[]:=by
     rw[iE,aN,List.getElem?_replicate]
     split<;>rfl
    rw[e]
    exact bE _ _ _ _
   ·rw[List.getElem?_replicate]at e
    split at e
    ·injection e with e
     subst e
     exact .inl rfl
    ·cases e)
 obtain⟨b3,hZ⟩:=Ex w1.heap.size;(have hb3l:w.heap.size≤b3:=by rw[hZ];exact HBE1.out.size);rw[←hZ]at Vl;rw[←hZ];clear hZ z0 z1 z2 z3 z4 z5 z6 z7 z8 zz P0 HBD1 HBE1 Rm nX HBD2 AW hl1b hl2;have Qk:=@run_makeMap U;go_loopg[28] n (fun gk v28 wr=>∃(i:Nat) (bs:List Nat) (vs:List Value),i≤n∧gk=n-i∧v28=cS dA i∧bs.length=i∧Set1 w wr b3 (w.heap.size+1) (b3+1) n #[cU bn,cV b.static,cS dA b.ty.kind,cU b.ty.name,cT bt.pn bt.nn bt.kn,cT bt.pp bt.np bt.kp,cV b.ty.many,cS dA b.regs,cT (some ⟨c,co,none⟩) n kc] bs vs (iE code i));(case atStart=>exact⟨0,[],_,aJ _,rfl,rfl,rfl,Vl.out⟩)
 case round=>
  obtain⟨i,bs,vs,hi,hgk,rfl,hU,jB⟩:=hrel;have HG:=Ih hgk;have iO:=Ih jB;have jC:=Ih hU;clear hgk jB hU;by_cases dH:i<n
  ·obtain⟨i0,if0⟩:=dE iO.out.inb;have jI:=iO.out.inr.cellAt i Om;rw[bD (by rw[aI,jC.out];exact aA _),aI,jC.out,Nat.sub_self,List.getElem?_replicate,if_pos Om]at jI;have vz:=iO.out.inr.frozenAt i;have eS:w.heap.size+1<wr.heap.size:=(iO.out.inr.lt (w.heap.size+1) rfl).2;obtain⟨z0,z1,z2,z3,z4,z5,z6,z7,z8,zz⟩:=jV iO.out.body;have Nx:=dB iO.out.body;have qA:(i:Int)<n:=Om;obtain⟨o,Ds⟩:=Ex (code[i]'(by rw[qK.out];exact dH));(have Nr:code[i]? =some o:=by rw[Ds];exact aB _);have KA:=fun(w':World) hb=>Qb code i (some ⟨c,co,none⟩) n kc w' (EN.out.below hb) qK.out qT zL dH Om;rw[←Ds]at KA;obtain⟨ls,zJ⟩:=Ex (jD o i);rw[←zJ]at KA;have HLDS:=Ih KA;have aq:Hid (mC code i=ls):=Ih (by rw[Bf Nr,zJ]);have HLR:Hid (∀k∈ls,0≤k∧k<n):=Ih (by rw[zJ,←qK.out];exact Bp.out i o Nr);clear KA zJ Nr Ds dH;have nM:=iO.out.more (by rw[jC.out];omega);rw[jC.out,World.setCell_alloc_past _ _ _ _ eS]at nM;have Nd:=Ih nM;clear nM;go_wp2_with fail;have mW:=Ih Nd.out.bel;obtain⟨w3,kh⟩:=Ex ((wr.setCell ⟨w.heap.size+1,i,none⟩ (.map (some wr.heap.size))).alloc (.map #[] 0));obtain⟨bm,oL⟩:=Ex wr.heap.size;rw[←kh,←oL]at Nd;rw[←kh]at mW;rw[←kh];clear kh jI vz eS z0 z1 z2 z3 z4 z5 z6 z7 z8 zz Nx i0 if0;refine(HLDS.out w3 mW.out).mono ?_;rintro y w4 ⟨lv,rfl,tO,jO⟩;obtain⟨lp,lk,rfl,UV,UU⟩:=dI tO;have HS4:Hid (Set1 w w4 b3 (w.heap.size+1) (b3+1) n #[cU bn,cV b.static,cS dA b.ty.kind,cU b.ty.name,cT bt.pn bt.nn bt.kn,cT bt.pp bt.np bt.kp,cV b.ty.many,cS dA b.regs,cT (some ⟨c,co,none⟩) n kc] (bs++[bm]) vs (iE code i)):=Ih (Nd.out.fr' (EFr.of (chg:=[]) jO) Si Si Si (Nd.out.fr.fr (EFr.of (B:=0) (chg:=[]) jO).c Si Si));(have HAPT:Hid (∀(k:Nat) (vk:Value),vs[k]? =some vk→vk.ownBlock=none∨vk.ownBlock≠(aW lp ls.length lk).ownBlock):=Ih fun k vk e=>by by_cases lE:vk.ownBlock=none;(·exact .inl lE);(·right;intro e2;(have hvl:vs.length=n:=by have:=Nd.out.fr.row.1;omega);obtain⟨ep,e',ho⟩:=Nd.out.fr.each k (by rw[←hvl];exact(List.getElem?_eq_some_iff.1 e).1);rw[e]at e';injection e' with e';subst e';obtain⟨q,hq⟩:=Option.ne_none_iff_exists'.1 lE;have h1:=(ho.lt q hq).2;rw[hq]at e2;have h2:=(tO.lt q e2.symm).1;omega));have Ot:=Ih (mB tO mW.out.size);have hlk3:(ls.length:Int)≤lk:=Om;unfold maxLen at UU;clear jO tO Nd mW;obtain⟨nl,sX⟩:=Ex ls.length;rw[←sX]at Ot HAPT UV hlk3⊢;have zP:=Ih sX;clear sX;go_wp2_with fail;go_loopg[40] nl (fun gk v40 wx=>∃(j:Nat) (GS:List Value),j≤nl∧gk=nl-j∧v40=cS dA j∧Set1 w wx b3 (w.heap.size+1) (b3+1) n #[cU bn,cV b.static,cS dA b.ty.kind,cU b.ty.name,cT bt.pn bt.nn bt.kn,cT bt.pp bt.np bt.kp,cV b.ty.many,cS dA b.regs,cT (some ⟨c,co,none⟩) n kc] (bs++[bm]) GS ((ls.take j).foldl (tK i) (iE code i))∧wx.ownsRow w.heap.size 3 1 (cT lp nl lk) nl (jR ls)∧(∀(k:Nat) (vk:Value),GS[k]? =some vk→vk.ownBlock=none∨vk.ownBlock≠(aW lp nl lk).ownBlock));(case atStart=>exact⟨0,vs,aJ _,rfl,rfl,HS4.out,Ot.out,HAPT.out⟩)
   case round=>
    obtain⟨j,GS,hj,hgk,rfl,jB,tO,hapt⟩:=hrel;have nX:=Ih hgk;have uP:=Ih jB;have HLX:=Ih tO;have rE:=Ih hapt;clear hgk jB tO hapt;by_cases dH:j<nl
    ·(have lA:j<ls.length:=by rw[←zP.out];exact dH);obtain⟨g,gN,Vh,hg0,hg00,KO,yG,hgc⟩:=eN HLX.out Om;injection Vh with hge1 _ hge3;subst hge1 hge3;obtain⟨k0,Hl⟩:∃k0:Nat,ls[j]=(k0:Int):=⟨ls[j].toNat,by have:=HLR.out ls[j] (aE lA);omega⟩;(have KE:k0<n:=by have:=HLR.out ls[j] (aE lA);omega);have VU:=hgc j (cS dA (k0:Nat)) (by unfold jR;rw[bH,aB lA,Option.map_some,Hl]);obtain⟨F,hF⟩:=Ex ((ls.take j).foldl (tK i) (iE code i))
     have Vn:Hid (tK i F (k0:Nat)=(ls.take (j+1)).foldl (tK i) (iE code i)):=Ih (by
      rw[aL lA,List.foldl_append,←hF,cA,List.foldl_nil,Hl])
     (have hFb:(F.getD k0 []).length≤1000:=by have h1:=Lh i k0 (ls.take j) (iE code i);rw[←hF]at h1;have h2:=yL code k0 i;(have h3:(ls.take j).length≤2:=by rw[aO,←aq.out];(have:(mC code i).length≤2:=by unfold mC;split<;>first|exact Qa _ _|simp);omega);omega);rw[←hF]at uP;obtain⟨vk,PZ,TT⟩:=uP.out.fr.each k0 KE;obtain⟨kp,kk,rfl,-,-⟩:=dI TT;have EM:=Ih PZ;have YI:=Ih TT;have qT:=uP.out.fr.row.cellAt k0 Om;rw[PZ]at qT;have vz:=uP.out.fr.row.frozenAt k0;have hb4l:=(uP.out.fr.row.lt (b3+1) rfl).2;have hszr:=uP.out.bel.size;obtain⟨fl,VM⟩:=Ex ((F.getD k0 []).length);rw[←VM]at YI EM qT hFb;have HFL:=Ih VM;have Qn:(j:Int)<nl:=Om;have hk0i:(k0:Int)<n:=Om;clear hgc Hl hF PZ TT dH VM;go_wp2_with (at_builtin;refine sD qd _ _ Rf Rf w.heap.size (cT kp fl kk) fl (jR (F.getD k0 [])) Rf (YI.out.alloc _) wr.heap.size [cS dA (i:Nat)] Rf (heap_alloc_new wr _) rfl (by intro u hu;simp only[bF,aZ,or_false]at hu;rw[hu];rfl) Om Sv ?_;intro ep w6 eM;obtain⟨kp',kk',rfl,-,-⟩:=dI eM.own;have yv:=Ih eM;have NC:Hid (EFr w.heap.size [3] wr w6):=Ih ((EFr.of ((aC _ _).alloc (aA _) _)).trans (eM.fr (YI.out.alloc _) (aA _) Si));have hrow6:=NC.out.row uP.out.fr.row De;have qT:=hrow6.cellAt k0 Om;rw[EM.out]at qT;have vz:=hrow6.frozenAt k0;have hb4l:=(hrow6.lt (b3+1) rfl).2;have GB:=Ih hrow6;clear hrow6 eM)
     have Rp:Hid (EFr w.heap.size [69] w6 (w6.setCell ⟨b3+1,k0,none⟩ (cT kp' (fl+1) kk'))):=Ih (by
      obtain⟨h1,cs,fz,h2⟩:=lC GB.out (b3+1) rfl
      exact EFr.set h2 h1 Si k0 _)
     have eK:Hid (FrAt (w6.setCell ⟨b3+1,k0,none⟩ (cT kp' (fl+1) kk')) w.heap.size n (cT (some ⟨b3+1,0,none⟩) n n) (GS.set k0 (cT kp' (fl+1) kk')) (tK i F (k0:Nat))):=Ih (by
      have ha:=yv.out
      have he:=EM.out
      rw[HFL.out]at ha he⊢
      exact uP.out.fr.app KE he i ((aC _ _).alloc (aA _) (cY #[cS dA (i:Nat)] 3)) ha rfl)
     have HST7:=Ih (uP.out.fr' ((NC.out.mono (chg':=[3,69]) Si).trans (Rp.out.mono Si)) De De De eK.out);have zQ:Hid ((aW kp fl kk).ownBlock≠some g∨(aW kp fl kk).ownBlock=none):=Ih ((rE.out k0 _ EM.out).elim .inr .inl)
     have HLV7:Hid ((w6.setCell ⟨b3+1,k0,none⟩ (cT kp' (fl+1) kk')).ownsRow w.heap.size 3 1 (cT (some ⟨g,0,none⟩) nl lk) nl (jR ls)):=Ih (Rp.out.row (uo (HLX.out.alloc _) yv.out.grow (.inr fun e=>by
      rcases zQ.out with h|h
      ·exact h e.symm
      ·rw[h]at e;cases e)) De)
     (have HAP7:Hid (∀(k:Nat) (vk:Value),(GS.set k0 (cT kp' (fl+1) kk'))[k]? =some vk→vk.ownBlock=none∨vk.ownBlock≠(aW (some ⟨g,0,none⟩) nl lk).ownBlock):=Ih fun k vk e=>by rw[List.getElem?_set]at e;split at e;(·split at e;(·injection e with e;subst e;rcases yv.out.blk with e|e;(·rw[e];exact rE.out k0 _ EM.out);(·right;rw[e];intro e2;injection e2 with e2;simp at e2;omega));(·cases e));(·exact rE.out k vk e));go_roundg (nl-(j+1));(case measure=>have:=nX.out;omega);(case rel=>exact⟨j+1,_,by omega,rfl,Gn,by rw[←Vn.out];exact HST7.out,HLV7.out,HAP7.out⟩)
    ·obtain rfl:j=nl:=Om
     have HF:Hid ((ls.take j).foldl (tK i) (iE code i)=iE code (i+1)):=Ih (by
      rw[aY (by rw[zP.out];exact aA _)]
      rw[iE,aq.out])
     go_wp2_with fail;go_roundg (n-(i+1));(case measure=>have:=HG.out;omega);(case rel=>exact⟨i+1,bs++[bm],GS,by omega,rfl,Gn,by rw[aD,jC.out];rfl,by rw[←HF.out];exact uP.out⟩)
  ·obtain rfl:n=i:=Om;clear dH Qk;obtain⟨z0,z1,z2,z3,z4,z5,z6,z7,z8,zz⟩:=jV iO.out.body;have Nx:=dB iO.out.body;have hbl3:w.heap.size<wr.heap.size+1:=Om;go_wp2_with fail;obtain⟨b9,tP⟩:=Ex (wr.heap.size+1);have dJ:dG wr ((wr.alloc (cY #[] 112)).alloc (cY #[cT (some ⟨wr.heap.size,0,none⟩) 0 0] 108)):=((aC _ _).alloc (aA _) _).alloc Si _
   have HT0:Hid (Set3 w ((wr.alloc (cY #[] 112)).alloc (cY #[cT (some ⟨wr.heap.size,0,none⟩) 0 0] 108)) b3 b9 (b3+1) n #[cU bn,cV b.static,cS dA b.ty.kind,cU b.ty.name,cT bt.pn bt.nn bt.kn,cT bt.pp bt.np bt.kp,cV b.ty.many,cS dA b.regs,cT (some ⟨c,co,none⟩) n kc] (cT (some ⟨w.heap.size+1,0,none⟩) n n) (cT (some ⟨wr.heap.size,0,none⟩) 0 0) bs vs (iE code n) ⟨cC n [],[]⟩):=Ih (by
    have hs:=iO.out.bel.size
    refine⟨iO.out.bel.trans (dJ.mono hs),(dJ.block _ Nx).trans iO.out.body,iO.out.fr.fr (EFr.of (B:=0) (chg:=[]) dJ).c Si Si,⟨Kb dJ iO.out.inb,?_,?_,(iO.out.done (k:=0) jC.out).fr (EFr.of (B:=0) (chg:=[]) dJ) Si,?_,by omega⟩⟩
    ·rw[tP];exact dF wr _ _
    ·exact(Xc (n:=0) (size:=2) [] hs rfl De).alloc _
    ·exact hb3l)
   obtain⟨F,hF⟩:=Ex (iE code n);have ZD:Hid (∀(q:Nat) (j:Int),j∈F.getD q []↔∃i:Nat,i<n∧j=i∧(q:Int)∈mC code i):=Ih (by rw[hF];exact Le Bp.out n);(have HFZ:Hid (∀q,(F.getD q []).length≤400):=Ih fun q=>by have:=yL code q n;rw[←hF]at this;omega);rw[←hF]at HT0;rw[←tP];obtain⟨v3,OI⟩:=Ex (aW (some ⟨w.heap.size+1,0,none⟩) n n);rw[←OI]at HT0;have yj:=Ih OI;clear OI hF tP dJ z0 z1 z2 z3 z4 z5 z6 z7 z8 zz Nx hbl3 iO HG jC;go_loopg[61] n (fun gk v61 wx=>∃(i:Nat) (v9:Value) (s:WS),i≤n∧gk=n-i∧v61=cS dA i∧Set3 w wx b3 b9 (b3+1) n #[cU bn,cV b.static,cS dA b.ty.kind,cU b.ty.name,cT bt.pn bt.nn bt.kn,cT bt.pp bt.np bt.kp,cV b.ty.many,cS dA b.regs,cT (some ⟨c,co,none⟩) n kc] v3 v9 bs vs F s∧LvInv code regs (fun _ _ _=>False) s∧s.work=[]∧∀(i':Nat) (o':Ty.Ord),i'<i→code[i']? =some o'→∀r∈o'.s,r∈s.L.getD i' []);(case atStart=>exact⟨0,_,_,aJ _,rfl,rfl,HT0.out,C5 code regs n qK.out,rfl,fun i' o' h=>absurd h (Nat.not_lt_zero _)⟩)
   case round=>
    obtain⟨i,v9,s,hi,hgk,rfl,jB,Kn,OD,rW⟩:=hrel;have HG:=Ih hgk;have iO:=Ih jB;have pP:=Ih Kn;have QK:=Ih OD;have vY:=Ih rW;clear hgk jB Kn OD rW;by_cases dH:i<n
    ·(have eZ:i<code.length:=by rw[qK.out];exact dH);obtain⟨ov,fK,M3⟩:=mN.out i eZ;obtain⟨o,Ds⟩:=Ex (code[i]);rw[←Ds]at fK M3;(have Nr:code[i]? =some o:=by rw[Ds];exact aB _);have HOO:=Ih Nr;obtain⟨y0,y1,y2,y3,y4,y5,y6,y7,y8,y9⟩:=jY iO.out.bel hc fK;have QY:=Ih M3;have qA:(i:Int)<n:=Om;(have qS:c<wr.heap.size:=by have:=iO.out.bel.size;omega);clear fK M3 Ds Nr dH;go_wp2_with fail;obtain⟨ns,kX⟩:=Ex ov.ns;obtain⟨ps,kD⟩:=Ex ov.ps;rw[←kX,←kD];have Ip:Hid (ov.ps=ps):=Ih kD.symm;have Mg:Hid (o.s.length=ns):=Ih (by rw[kX];exact QY.out.sl);(have hns9:ns≤9223372036854775807:=by have:=QY.out.sk;have:=QY.out.sb;omega);(have JT:(ns:Int)≤ov.ks:=by have:=QY.out.sk;omega);have rA:dG wr (wr.alloc (cY #[cS dA o.op,cT ov.pd ov.nd ov.kd,cT ps ns ov.ks,cS dA o.n,cU o.name,cS dA o.ty.kind,cU o.ty.name,cT ov.tv.pn ov.tv.nn ov.tv.kn,cT ov.tv.pp ov.tv.np ov.tv.kp,cV o.ty.many] 71)):=(aC _ _).alloc (aA _) _;have HS4:=Ih (iO.out.old rA)
     have HLF:Hid (s.left code.length regs≤80000):=Ih (by
      unfold WS.left
      rw[QK.out,qK.out]
      have:n*regs≤200*200:=Nat.mul_le_mul hn iS
      simp
      omega)
     clear kX kD rA y0 y1 y2 y3 y4 y5 y6 y7 y8 y9;go_loopg[69] ns (fun gk v69 wx=>∃(j:Nat) (v9:Value) (s:WS),j≤ns∧gk=ns-j∧v69=cS dA j∧Set3 w wx b3 b9 (b3+1) n #[cU bn,cV b.static,cS dA b.ty.kind,cU b.ty.name,cT bt.pn bt.nn bt.kn,cT bt.pp bt.np bt.kp,cV b.ty.many,cS dA b.regs,cT (some ⟨c,co,none⟩) n kc] v3 v9 bs vs F s∧LvInv code regs (fun _ _ _=>False) s∧s.left code.length regs≤80000∧(∀(i':Nat) (o':Ty.Ord),i'<i→code[i']? =some o'→∀r∈o'.s,r∈s.L.getD i' [])∧∀r∈o.s.take j,r∈s.L.getD i []);(case atStart=>exact⟨0,v9,s,aJ _,rfl,rfl,HS4.out,pP.out,HLF.out,vY.out,fun r h=>by simp at h⟩)
     case round=>
      obtain⟨j,v9,s,hj,hgk,rfl,jB,Kn,Gp,rW,OQ⟩:=hrel;have nX:=Ih hgk;have iO:=Ih jB;have pP:=Ih Kn;have Mk:=Ih Gp;have vY:=Ih rW;have DR:=Ih OQ;clear hgk jB Kn Gp rW OQ;by_cases dH:j<ns
      ·(have lA:j<o.s.length:=by rw[Mg.out];exact dH);obtain⟨r,hr⟩:=Ex (o.s[j]);(have hrm:r∈o.s:=by rw[hr];exact aE lA);have TN:=HS.out i o HOO.out r hrm;have hr64:lJ r:=⟨by have:=TN.1;omega,by have:=TN.2;omega⟩;(obtain⟨c2,qu,rfl,sM,jI⟩:∃c2 qu,ps=some ⟨c2,qu,none⟩∧c2<wr.heap.size∧wr.cell? ⟨c2,qu+j,none⟩=some (cS dA r):=by rcases(QY.out.below iO.out.bel).ss with h0|⟨c2,qu,e,h1,h2⟩;(·omega);(·refine⟨c2,qu,Ip.out.symm.trans e,h1,?_⟩;rw[h2 j lA,aN,aB lA,Option.getD_some,←hr]));have Uu:Hid (∀q,(s.L.getD q []).length≤100000):=Ih fun q=>aG (nodup_range (pP.out.nodup q) fun r h=>pP.out.range q r h) Om;have xF:=Zl w.heap.size b3 b9 n v3 v9 bs s r i wr iO.out.lv Om Om hr64 Uu.out (aG (Ep Mk.out) De) iO.out.bel.size;have NL:=Ih xF;have uC:Live code i r:=Live.read i r o HOO.out hrm;have HINV2:=Ih (pP.out.back (by rw[qK.out];omega) uC TN);have YV:=Ih (aG (Pz pP.out (by rw[qK.out];omega) uC TN) Mk.out);have sy:Hid (∀{q:Nat} {x:Int},x∈s.L.getD q []→x∈(kK r i s).L.getD q []):=Ih fun h=>uM (by rw[pP.out.len,qK.out];omega) h;have HHAS:Hid (r∈(kK r i s).L.getD i []):=Ih (Fi (by rw[pP.out.len,qK.out];omega));have wP:Hid (o.s.take (j+1)=o.s.take j++[r]):=Ih (by rw[aL lA,hr]);have Qn:(j:Int)<ns:=Om;clear hr hrm TN hr64 xF uC dH;go_wp2_with fail;refine NL.out.mono ?_;rintro y w5 ⟨rfl,EW,tO,BF,-,-⟩;have HS5:=Ih (iO.out.bk BF tO);clear BF tO NL jI;go_wp2_with fail;go_roundg (ns-(j+1));(case measure=>have:=nX.out;omega)
       case rel=>exact⟨j+1,EW,kK r i s,by omega,rfl,Gn,HS5.out,HINV2.out,YV.out,fun i' o' h1 h2 x hx=>sy.out (vY.out i' o' h1 h2 x hx),fun x hx=>by
        rw[wP.out]at hx
        rcases List.mem_append.1 hx with hx|hx
        ·exact sy.out (DR.out x hx)
        ·rw[aK]at hx
         rw[hx]
         exact HHAS.out⟩
      ·obtain rfl:ns=j:=Om;(have si:Hid (∀(i':Nat) (o':Ty.Ord),i'<i+1→code[i']? =some o'→∀r∈o'.s,r∈s.L.getD i' []):=Ih fun i' o' h1 h2 x hx=>by by_cases e:i'=i;(·subst e;have:=HOO.out;rw[this]at h2;injection h2 with h2;subst h2;exact DR.out x (by rw[aY (Nat.le_of_eq Mg.out)];exact hx));(·exact vY.out i' o' Om h2 x hx));clear dH vY DR;go_wp2_with fail;go_loopg[] (s.left code.length regs) (fun gk wx=>∃(v9:Value) (s:WS),gk=s.left code.length regs∧Set3 w wx b3 b9 (b3+1) n #[cU bn,cV b.static,cS dA b.ty.kind,cU b.ty.name,cT bt.pn bt.nn bt.kn,cT bt.pp bt.np bt.kp,cV b.ty.many,cS dA b.regs,cT (some ⟨c,co,none⟩) n kc] v3 v9 bs vs F s∧LvInv code regs (fun _ _ _=>False) s∧s.left code.length regs≤80000∧(∀(i':Nat) (o':Ty.Ord),i'<i+1→code[i']? =some o'→∀r∈o'.s,r∈s.L.getD i' []));(case atStart=>exact⟨v9,s,rfl,iO.out,pP.out,Mk.out,si.out⟩)
       case round=>
        obtain⟨v9,⟨L,wk⟩,hgk,jB,Kn,Gp,rW⟩:=hrel;have Ac:=Ih hgk;have iO:=Ih jB;have pP:=Ih Kn;have Mk:=Ih Gp;have vY:=Ih rW;clear hgk jB Kn Gp rW si HS4 HLF nX;obtain⟨p9,k9,rfl,-,-⟩:=dI iO.out.lv.wkr;obtain⟨x0,xf0⟩:=dE iO.out.lv.wkb;have hb9l:=dB iO.out.lv.wkb;rcases List.eq_nil_or_concat wk with hwk|⟨W,⟨r0,a0⟩,hwk⟩;(·subst hwk;simp only[aT]at x0;go_wp2_with fail;go_roundg (n-(i+1));(case measure=>have:=HG.out;omega);(case rel=>exact⟨i+1,_,_,by omega,rfl,Gn,iO.out,pP.out,rfl,vY.out⟩))
        ·rw[List.concat_eq_append]at hwk;subst hwk;obtain⟨m,hm⟩:=Ex W.length;(have hmW:(W++[(r0,a0)]).length=m+1:=by rw[aD,hm];rfl);obtain⟨nm,fG⟩:=Ex (m+1);rw[hmW,←fG]at x0
         have HWR:Hid (wr.ownsRow w.heap.size 112 2 (cT p9 nm k9) nm (Ag W++[cS dA r0,cS dA (a0:Nat)])):=Ih (by
          have h:=iO.out.lv.wkr
          simp only at h
          rw[hmW,←fG,Iw]at h
          exact h)
         have Zs:Hid (Set3 w wr b3 b9 (b3+1) n #[cU bn,cV b.static,cS dA b.ty.kind,cU b.ty.name,cT bt.pn bt.nn bt.kn,cT bt.pp bt.np bt.kp,cV b.ty.many,cS dA b.regs,cT (some ⟨c,co,none⟩) n kc] v3 (cT p9 nm k9) bs vs F ⟨L,W++[(r0,a0)]⟩):=Ih (by
          have h:=iO.out
          rw[hmW,←fG]at h
          exact h)
         obtain⟨g9,cap9,he9,hn9,hm9,hg9,hg9l,hc9⟩:=eN HWR.out Om;injection he9 with he9 _ he9k;subst he9 he9k;(have cu:(Ag W).length=m*2:=by rw[za,hm]);have mZ:=hc9 (m*2) (cS dA r0) (by rw[bD Om,cu,Nat.sub_self];rfl);have ha0:=hc9 (m*2+1) (cS dA (a0:Nat)) (by rw[bD Om,cu,Nat.add_sub_cancel_left];rfl);have hx:=pP.out.work (r0,a0) (List.mem_append_right _ Si);simp only at hx;(have Nt:m≤80000:=by have:=Ep Mk.out;simp only at this;rw[hmW]at this;omega);have hnm1:(nm:Int)-1=m:=Om;have hnmw:IntKind.i64.wrap ((nm:Int)-1)=(m:Int):=(aX _ Om).trans Om;have JX:(m:Int)<nm:=Om;have Ql:(m:Int)≤k9:=Om;have hnk9:(nm:Int)≤k9:=Om;unfold maxLen at hm9;(have WM:a0<n:=by rw[←qK.out];exact hx.1);obtain⟨vf,evf,TW⟩:=Zs.out.fr.each a0 WM;have hcf:=Zs.out.fr.row.cellAt a0 Om;rw[evf]at hcf;obtain⟨fp,fk,rfl,hfk1,hfk2⟩:=dI TW;have HOVF:=Ih TW;have hfrl:=(Zs.out.fr.row.lt (b3+1) rfl).2;have ha0i:(a0:Int)<n:=Om;have lj:b3+1≠b9:=fun e=>kA Zs.out.fr.row Zs.out.lv.wkb De (by rw[←e];rfl);have To:b9≠b3+1:=fun e=>lj e.symm;have HX0:=Ih hx;have pR:=Ih fG;have HM:=Ih hm;have HEVF:=Ih evf;clear hc9 hx hm hmW fG evf TW iO;obtain⟨nf,hnf⟩:=Ex ((F.getD a0 []).length);rw[←hnf]at hcf HOVF hfk1 HEVF;have HNF:=Ih hnf;clear hnf;go_wp2_with fail
         have HT7:Hid (Set3 w ((wr.setCell ⟨b9,0,none⟩ (cT (some ⟨g9,0,none⟩) m k9)).alloc (cY #[cS dA r0,cS dA (a0:Nat)] 112)) b3 b9 (b3+1) n #[cU bn,cV b.static,cS dA b.ty.kind,cU b.ty.name,cT bt.pn bt.nn bt.kn,cT bt.pp bt.np bt.kp,cV b.ty.many,cS dA b.regs,cT (some ⟨c,co,none⟩) n kc] v3 (cT (some ⟨g9,0,none⟩) m k9) bs vs F ⟨L,W⟩):=Ih (by
          have f1:EFr w.heap.size [108] wr (wr.setCell ⟨b9,0,none⟩ (cT (some ⟨g9,0,none⟩) m k9)):=EFr.set Zs.out.lv.wkb Zs.out.lv.o9 Si 0 _
          have hp:=II HWR.out (n':=m) Om
          rw[List.take_append_of_le_length Om,aY Om]at hp
          have h1:Set3 w (wr.setCell ⟨b9,0,none⟩ (cT (some ⟨g9,0,none⟩) m k9)) b3 b9 (b3+1) n #[cU bn,cV b.static,cS dA b.ty.kind,cU b.ty.name,cT bt.pn bt.nn bt.kn,cT bt.pp bt.np bt.kp,cV b.ty.many,cS dA b.regs,cT (some ⟨c,co,none⟩) n kc] v3 (cT (some ⟨g9,0,none⟩) m k9) bs vs F ⟨L,W⟩:=
           ⟨Zs.out.bel.trans (f1.below Zs.out.bel.size),f1.obj Zs.out.body De,Zs.out.fr.fr f1.c De De,⟨f1.obj Zs.out.lv.inb De,eF Zs.out.lv.wkb 0 _,by
            show World.ownsRow _ _ _ _ _ W.length _
            rw[←HM.out]
            exact f1.row hp De,Zs.out.lv.sets.fr f1 De,Zs.out.lv.o3,Zs.out.lv.o9⟩⟩
          exact h1.old ((aC _ _).alloc (aA _) _))
         obtain⟨xw,Tw⟩:=Ex wr.heap.size;obtain⟨w7,Te⟩:=Ex ((wr.setCell ⟨b9,0,none⟩ (cT (some ⟨g9,0,none⟩) m k9)).alloc (cY #[cS dA r0,cS dA (a0:Nat)] 112))
         have xO:Hid (w7.heap[xw]? =some (cY #[cS dA r0,cS dA (a0:Nat)] 112 (0,0))):=Ih (by
          rw[Te,Tw]
          have:=heap_alloc_new (wr.setCell ⟨b9,0,none⟩ (cT (some ⟨g9,0,none⟩) m k9)) (cY #[cS dA r0,cS dA (a0:Nat)] 112)
          simpa using this)
         have hg14:g9≠xw:=Om;rw[←Te]at HT7;rw[←Te,←Tw];(have KZ:code[a0]?≠none:=by rw[aB (by rw[qK.out];exact WM)];simp);obtain⟨FN,hFN⟩:=Ex ((F.getD a0 []).map Int.toNat:List Nat);have Av:Hid (FN=(F.getD a0 []).map Int.toNat):=Ih hFN
         have tj:Hid (LvInv code regs (fun a r i'=>a=a0∧r=r0∧i'∈FN.drop 0) ⟨L,W⟩):=Ih (by
          rw[List.drop_zero]
          exact pP.out.pop fun i' o' h1 h2=>by
           rw[hFN,List.mem_map]
           exact⟨(i':Int),(ZD.out a0 i').2 ⟨i',by rw[←qK.out];exact(List.getElem?_eq_some_iff.1 h1).1,rfl,by rw[Bf h1];exact h2⟩,by simp⟩)
         obtain⟨KL,hKL⟩:=Ex ((⟨L,W++[(r0,a0)]⟩:WS).left code.length regs)
         have HL7:Hid ((⟨L,W⟩:WS).left code.length regs<KL):=Ih (by
          rw[hKL]
          unfold WS.left WS.cnt
          simp only[aD,List.length_singleton]
          omega)
         have HKL:Hid (KL≤80000):=Ih (by rw[hKL];exact Mk.out);have HKG:=Ih hKL;clear Tw Te hcf mZ ha0 x0 xf0 hb9l hfrl lj To HWR Zs hFN hKL KZ pP Mk HOVF cu hnm1 hnmw JX hnk9 hg9l hm9 hn9;go_loopg[98] nf (fun gk v98 wx=>∃(j:Nat) (v9:Value) (s:WS),j≤nf∧gk=nf-j∧v98=cS dA j∧Set3 w wx b3 b9 (b3+1) n #[cU bn,cV b.static,cS dA b.ty.kind,cU b.ty.name,cT bt.pn bt.nn bt.kn,cT bt.pp bt.np bt.kp,cV b.ty.many,cS dA b.regs,cT (some ⟨c,co,none⟩) n kc] v3 v9 bs vs F s∧LvInv code regs (fun a r i'=>a=a0∧r=r0∧i'∈FN.drop j) s∧s.left code.length regs<KL∧(∀(i':Nat) (o':Ty.Ord),i'<i+1→code[i']? =some o'→∀r∈o'.s,r∈s.L.getD i' [])∧wx.heap[xw]? =some (cY #[cS dA r0,cS dA (a0:Nat)] 112 (0,0))∧v9.ownBlock≠some xw∧r0∈s.L.getD a0 []);(case atStart=>exact⟨0,_,⟨L,W⟩,aJ _,rfl,rfl,HT7.out,tj.out,HL7.out,vY.out,xO.out,fun e=>hg14 (by injection e),HX0.out.2⟩)
         case round=>
          obtain⟨j,v9,s,hj,hgk,rfl,jB,Kn,Gp,rW,hxb,fM,Cx⟩:=hrel;have Hv:=Ih hgk;have uP:=Ih jB;have pP:=Ih Kn;have aj:=Ih Gp;have YC:=Ih rW;have FT:=Ih hxb;have zQ:=Ih fM;have sy:=Ih Cx;clear hgk jB Kn Gp rW hxb fM Cx;by_cases dH:j<nf
          ·(have hjf:j<(F.getD a0 []).length:=by rw[←HNF.out];exact dH);obtain⟨i1,hi1,hfj,AV⟩:=(ZD.out a0 _).1 (aE hjf);(have KI:i1<code.length:=by rw[qK.out];exact hi1);obtain⟨ov1,fK,D7⟩:=mN.out i1 KI;obtain⟨o1,UF⟩:=Ex (code[i1]);rw[←UF]at fK D7;have P0:Hid (code[i1]? =some o1):=Ih (by rw[UF];exact aB _);rw[Bf P0.out]at AV;have HLEAD:=Ih AV
           have RL:Hid (FN.drop j=i1::FN.drop (j+1)):=Ih (by
            have:j<FN.length:=by rw[Av.out,aI];exact hjf
            rw[List.drop_eq_getElem_cons this]
            congr 1
            have e:FN[j]=((F.getD a0 [])[j]).toNat:=by
             have:=Av.out
             subst this
             rw[cH]
            rw[e,hfj,Int.toNat_natCast])
           obtain⟨vk,PZ,TU⟩:=uP.out.fr.each a0 WM;rw[HEVF.out]at PZ;injection PZ with PZ;subst PZ;rw[←HNF.out]at TU;obtain⟨gf,capf,wh,-,-,-,hgfl,hcf⟩:=eN TU Om;injection wh with hef1 _ hef2;subst hef1 hef2;have VU:=hcf j (cS dA (i1:Nat)) (by unfold jR;rw[bH,aB hjf,Option.map_some,hfj]);have Qn:(j:Int)<nf:=Om;have hnfk:(nf:Int)≤fk:=Om;unfold maxLen at hfk2;have hi1i:(i1:Int)<n:=Om;(have qS:c<wr.heap.size:=by have:=uP.out.bel.size;omega);obtain⟨q,hq⟩:=Ex (o1.d.contains r0);have JQ:=pP.out.range a0 r0 sy.out;have OR:lJ r0:=⟨by have:=JQ.1;omega,by have:=JQ.2;omega⟩;have Zw:=Ih JQ;have HR064:=Ih OR;have wj:=uP.out.bel.cell (p:=⟨c,co+i1*10+1,none⟩) hc;have hd2:=fK 1 _ rfl;have Iv:Hid (wr.cell? ⟨c,co+i1*10+1,none⟩=some (cT ov1.pd ov1.nd ov1.kd)):=Ih (wj.trans hd2);have ZI:Hid (SliceAt wr dA ov1.pd o1.d):=Ih (D7.ds.below uP.out.bel);have Qq:=D7.dl;have BI:=D7.dk;have VR:=D7.db;have Rr:=Ih Qq;have HQ:=Ih hq;have hU:=dB uP.out.body;have Qc:=dB FT.out;clear hcf hfj AV fK D7 UF JQ OR wj hd2 Qq hq dH TU;go_wp2_with fail;refine eY (Below wr.heap.size wr) Kr Kr (dD _) ?_;intro ι _ Fw HD HE;have fz:=fun n=>jV (((HD.out n).block _ hU).trans uP.out.body);have fx:=fun n=>qV (((HD.out n).block _ Qc).trans FT.out);have fc:=fun n=>((HD.out n).cell (p:=⟨c,co+i1*10+1,none⟩) qS).trans Iv.out;have nA:=Ih (fun n=>eG (n:=n) HE ((qC (c:=ov1.kd) (ZI.out.below (HD.out n)) Rr.out Om r0).mono fun _ _ ⟨e,hb⟩=>⟨e,by rw[←hb];exact HD.out n⟩));rw[←HQ.out]at nA;(repeat(go_big_quiet_step (first|exact nA.out _)));refine wpQuiet_nil ?_;intro w8 yK;clear fz fx fc nA HD HE;have ML:=Ih (uP.out.old yK);have In:=Ih ((yK.block _ Qc).trans FT.out);clear yK;cases q
           ·obtain⟨x0,x1,xf⟩:=qV In.out;(have PN:r0∉o1.d:=by have:=HQ.out;intro h;rw[List.contains_iff_mem.2 h]at this;cases this);have uC:Live code i1 r0:=Live.back i1 a0 r0 o1 P0.out HLEAD.out (pP.out.sound a0 r0 sy.out) PN;have Uu:Hid (∀q,(s.L.getD q []).length≤100000):=Ih fun q=>aG (nodup_range (pP.out.nodup q) fun r h=>pP.out.range q r h) Om;have xF:=Zl w.heap.size b3 b9 n v3 v9 bs s r0 i1 w8 ML.out.lv Om Om HR064.out Uu.out (aG (Ep (Nat.le_of_lt aj.out)) (aG HKL.out De)) ML.out.bel.size;have NL:=Ih xF;(have VH:i1<s.L.length:=by rw[pP.out.len];exact KI)
            have EH:Hid (LvInv code regs (fun a r i'=>a=a0∧r=r0∧i'∈FN.drop (j+1)) (kK r0 i1 s)):=Ih ((pP.out.back KI uC Zw.out).step fun a r i' o' h1 h2 ⟨h3,h4,h5⟩=>by
             rw[RL.out]at h5
             rcases List.mem_cons.1 h5 with h5|h5
             ·rw[h4,h5]
              exact .inl (Fi VH)
             ·exact .inr ⟨h3,h4,h5⟩)
            have HLT2:=Ih (Nat.lt_of_le_of_lt (Pz pP.out KI uC Zw.out) aj.out);have HMM:Hid (∀{q:Nat} {x:Int},x∈s.L.getD q []→x∈(kK r0 i1 s).L.getD q []):=Ih fun h=>uM VH h;(have hne9:xw≠b9:=fun e=>by have h1:=In.out;rw[e,ML.out.lv.wkb]at h1;injection h1 with h1;injection h1 with _ h1;exact absurd h1 De);(have hnbs:xw∉bs:=fun h=>by obtain⟨q,hq,e⟩:=aQ h;have:=(dS (ML.out.lv.sets.sets q hq).2).2 _ _ _ (by rw[e];exact In.out);exact this);have hxl8:=dB In.out;clear xF uC PN VH;go_wp2_with fail;refine NL.out.mono ?_;rintro y w9 ⟨rfl,EW,tO,BF,hfar,dU⟩;have HS9:=Ih (ML.out.bk BF tO);have Rl:=Ih ((hfar xw hxl8 hne9 (fun e=>zQ.out e.symm) hnbs).trans In.out);(have HN9:Hid (EW.ownBlock≠some xw):=Ih fun e=>by rcases dU xw e with h|h;(·exact zQ.out h);(·omega));clear tO BF hfar dU NL;go_wp2_with fail;go_roundg (nf-(j+1));(case measure=>have:=Hv.out;omega);(case rel=>exact⟨j+1,EW,kK r0 i1 s,by omega,rfl,Gn,HS9.out,EH.out,HLT2.out,fun i' o' h1 h2 x hx=>HMM.out (YC.out i' o' h1 h2 x hx),Rl.out,HN9.out,HMM.out sy.out⟩)
           ·have EH:Hid (LvInv code regs (fun a r i'=>a=a0∧r=r0∧i'∈FN.drop (j+1)) s):=Ih (pP.out.step fun a r i' o' h1 h2 ⟨h3,h4,h5⟩=>by
             rw[RL.out]at h5
             rcases List.mem_cons.1 h5 with h5|h5
             ·rw[h5,P0.out]at h1
              injection h1 with h1
              rw[h4,←h1]at h2
              exact absurd (List.contains_iff_mem.1 HQ.out.symm) h2
             ·exact .inr ⟨h3,h4,h5⟩)
            go_wp2_with fail;go_roundg (nf-(j+1));(case measure=>have:=Hv.out;omega);(case rel=>exact⟨j+1,v9,s,by omega,rfl,Gn,ML.out,EH.out,aj.out,YC.out,In.out,zQ.out,sy.out⟩)
          ·obtain rfl:nf=j:=Om
           have EH:Hid (LvInv code regs (fun _ _ _=>False) s):=Ih (pP.out.step fun a r i' o' _ _ ⟨_,_,h⟩=>by
            rw[List.drop_of_length_le (by rw[Av.out,aI,HNF.out];exact aA _)]at h
            cases h)
           go_wp2_with fail;go_roundg (s.left code.length regs);(case measure=>have:=Ac.out;rw[←HKG.out]at this;rw[this];exact aj.out);(case rel=>exact⟨v9,s,rfl,uP.out,EH.out,aG (Nat.le_of_lt aj.out) HKL.out,YC.out⟩)
    (·obtain rfl:n=i:=Om;obtain⟨i0,if0⟩:=dE iO.out.lv.inb;rw[yj.out]at i0;go_wp2_with fail;go_ret;rw[qK.out];exact⟨_,bs,s.L,rfl,by rw[←yj.out];exact iO.out.lv.sets,pP.out.all QK.out (fun i' o' h r hr=>vY.out i' o' (by rw[←qK.out];exact(List.getElem?_eq_some_iff.1 h).1) h r hr) Bp.out,pP.out.range,pP.out.nodup,iO.out.bel⟩)
end
section
open Go.RowKit Go.Shelf Ob Ty
open Go.ChangeMaps (setBlock heap_setBlock_same heap_setBlock_other)
structure Only (l:List Nat) (w w':World):Prop where
 os:w'.os=w.os
 tape:w'.tape=w.tape
 output:w'.output=w.output
 size:w.heap.size≤w'.heap.size
 block:∀k,k<w.heap.size→k∉l→w'.heap[k]? =w.heap[k]?
theorem Only.refl (l:List Nat) (w:World):Only l w w:=⟨rfl,rfl,rfl,aA _,fun _ _ _=>rfl⟩
theorem Only.trans {l:List Nat} (h:Only l w w1) (g:Only l w1 w2):Only l w w2:=
 ⟨g.os.trans h.os,g.tape.trans h.tape,g.output.trans h.output,aG h.size g.size,fun k hk hn=>(g.block k (aF hk h.size) hn).trans (h.block k hk hn)⟩
theorem Only.mono {l l':List Nat} (h:Only l w w1) (hl:∀x∈l,x∈l'):Only l' w w1:=⟨h.os,h.tape,h.output,h.size,fun k hk hn=>h.block k hk fun e=>hn (hl _ e)⟩
theorem Only.grown {l:List Nat} {r:Option Nat} (h:w.grownBy w1 r) (hr:∀g,r=some g→g∈l):Only l w w1:=⟨h.os,h.tape,h.output,h.size,fun k hk hn=>h.block k hk fun e=>hn (hr k e.symm)⟩
theorem Only.of {l:List Nat} (h:dG w w1):Only l w w1:=⟨h.os,h.tape,h.output,h.size,fun k hk _=>h.block k hk⟩
theorem Only.below {l:List Nat} (h:Only l w w1) (hl:∀x∈l,B≤x) (hB:B≤w.heap.size):Below B w w1:=⟨h.os,h.tape,h.output,h.size,fun k hk=>h.block k Om fun e=>by have:=hl k e;omega⟩
theorem Ke (l:List Int):Cv l=Maps.setOf (.lit (.bool true)) (l.map fun k=>Lit.int .i64 k):=by unfold Cv Maps.setOf;rw[List.foldl_map]
theorem OB (l:List Int):∀x∈l.map (fun k=>Lit.int .i64 k),WideAt.IsKeyLit x:=by intro x hx;obtain⟨k,_,rfl⟩:=List.mem_map.1 hx;trivial
theorem Fv (a b:Int):(Lit.int .i64 a).sameKey (Lit.int .i64 b)=decide (a=b):=by by_cases h:a=b;(·subst h;rw[WideAt.sameKey_self (by trivial)];simp);(·rw[Maps.sameKey_ne (fun e=>h (by injection e)),decide_eq_false h])
theorem Yl (l:List Int) (k:Int):Maps.has (Cv l) (.int .i64 k)=l.contains k:=by rw[Ke,Maps.has_setOf _ _ _ (OB l),List.any_map];rw[Bool.eq_iff_iff,List.any_eq_true,List.contains_iff_mem];simp only[Function.comp,Fv,decide_eq_true_eq];exact⟨fun⟨x,hx,e⟩=>e▸hx,fun h=>⟨k,h,rfl⟩⟩
theorem d6 (l:List Int):∀Rk:List Int,(∃l':List Int,l'.Nodup∧(∀x∈l',x∈Rk)∧(∀x∈Rk,x∈l')∧Maps.size (Cv Rk)=l'.length)→∃l':List Int,l'.Nodup∧(∀x∈l',x∈Rk++l)∧(∀x∈Rk++l,x∈l')∧Maps.size (Cv (Rk++l))=l'.length:=by
 induction l with
  |nil=>intro Rk h;simpa using h
  |cons k l ih=>
   intro Rk ⟨l',h1,h2,h3,h4⟩
   have:=ih (Rk++[k]) (by
    have ht:Maps.Tidy (Cv Rk):=by rw[Ke];exact Maps.tidy_setOf _ _ (OB Rk)
    rw[tY,Maps.size_put ht,Yl]
    by_cases hc:Rk.contains k=true
    ·rw[if_pos hc]
     refine⟨l',h1,fun x hx=>List.mem_append_left _ (h2 x hx),fun x hx=>?_,h4⟩
     rcases List.mem_append.1 hx with hx|hx
     ·exact h3 x hx
     ·rw[aK]at hx
      rw[hx]
      exact h3 k (List.contains_iff_mem.1 hc)
    ·rw[if_neg hc]
     refine⟨l'++[k],?_,fun x hx=>?_,fun x hx=>?_,by rw[h4,aD];rfl⟩
     ·rw[List.nodup_append]
      refine⟨h1,by simp,fun x hx y hy e=>hc ?_⟩
      rw[aK]at hy
      rw[List.contains_iff_mem,←hy,←e]
      exact h2 x hx
     ·rcases List.mem_append.1 hx with hx|hx
      ·exact List.mem_append_left _ (h2 x hx)
      ·exact List.mem_append_right _ hx
     ·rcases List.mem_append.1 hx with hx|hx
      ·exact List.mem_append_left _ (h3 x hx)
      ·exact List.mem_append_right _ hx)
   simpa[bP]using this
theorem Sb (l:List Int) {regs:Nat} (h:∀x∈l,Cb regs x):Maps.size (Cv l)≤regs:=by obtain⟨l',h1,h2,_,h4⟩:=d6 l [] ⟨[],by simp,by simp,by simp,rfl⟩;rw[bJ]at h4 h2;rw[h4];exact nodup_range h1 fun x hx=>h x (h2 x hx)
theorem sW {n regs:Nat} (h:fR w b n l) (hr:∀x∈l,Cb regs x):fR w b regs l:=by obtain⟨es,gK,h1,F,hs,hD⟩:=h;refine⟨es,gK,h1,F,?_,hD⟩;have h2:=Sb l hr;rw[hD]at h2;(have h3:Maps.size (DataW.map ((es.toList.map (WideElems.rg U 3 (plainElem (H:=Unit) U 4))).foldr DataW.insert []))=es.size:=by rw[Maps.size_eq,length_sorted];simp);omega
theorem jf {es:Array MapEntry} {gK:Nat} (s1:∀x∈es.toList,x.born<gK) (s2:(es.toList.map (·.born)).Nodup) (x:MapEntry) (hx:x.born=gK):(es.push x).findIdx? (fun e=>((e.born:Nat):Int)==((gK:Nat):Int))=some es.size:=by
 rw[WideElems.findIdx_arr]
 have h:=WideElems.findIdx_born (l:=(es.push x).toList) (j:=es.size) (e0:=x) (by
  rw[Array.toList_push,aS,List.nodup_append]
  refine⟨s2,by simp,fun a ha c hc e1=>?_⟩
  simp only[bC,cM,aK]at hc
  obtain⟨y,hy,rfl⟩:=List.mem_map.1 ha
  have:=s1 y hy
  omega) Si
 rw[hx]at h;exact h
theorem Hn {A:Nat} {es:Array MapEntry} {gK:Nat} (hb:w.heap[A]? =some (.map es gK)) (F:WideElems.Fit U 3 (plainElem (H:=Unit) U 4) es gK) {key:Value} {kl:Lit} (yE:keyOf U 3 key=some kl) (val:Value):
 ∃v0 st es1 qw es' qx,(Instr.mapEntry 144 (.map (some A)) key).run U w=.ok (.tuple #[v0,cS dA st]) (setBlock w A (.map es1 qw))∧
  (Instr.entryStore 144 (.map (some A)) (cS dA st) val).run U (setBlock w A (.map es1 qw))=.ok () (setBlock w A (.map es' qx))∧
  (Instr.mapUpdate 144 (.map (some A)) key val).run U w=.ok () (setBlock w A (.map es' qx)):=by have K:=Maps.int_keyed bG;have ht:=Tryz.underlying144;(have hz:∀u:World,(zeroValue 4).run U u=.ok (.bool false) u:=fun u=>by kernel_rfl);(have jB:∀x y,setBlock (setBlock w A x) A y=setBlock w A y:=fun x y=>by unfold setBlock;simp);obtain⟨s1,s2,_⟩:=F.stamped;rcases K.find w yE es.toList F.keys with⟨h1,_⟩|⟨j,e0,h1,h2,h3⟩;(·have eL:=heap_setBlock_same hb (.map (es.push ⟨key,.bool false,gK⟩) (gK+1));refine⟨.bool false,gK,es.push ⟨key,.bool false,gK⟩,gK+1,es.push ⟨key,val,gK⟩,gK+1,?_,?_,?_⟩;(·simp[Instr.mapEntry,run_underlying ht,MapKept.run_getObj_map hb,K.check w false yE,h1,hz,MapKept.run_setObj_map _ hb,cG,setBlock,goInt]);(·(have UO:(es.push ⟨key,.bool false,gK⟩).modify es.size (fun e=>{e with val:=val})=es.push ⟨key,val,gK⟩:=by apply Array.ext';rw[Array.toList_modify,Array.toList_push,Array.toList_push,←Array.length_toList,WideElems.modify_last]);(conv=>rhs;rw[←jB (.map (es.push ⟨key,.bool false,gK⟩) (gK+1))]);revert eL;generalize setBlock w A (.map (es.push ⟨key,.bool false,gK⟩) (gK+1))=w2;intro eL;simp[Instr.entryStore,MapKept.run_getObj_map eL,asInt,asIntOf,jf s1 s2 ⟨key,.bool false,gK⟩ rfl,UO,MapKept.run_setObj_map _ eL,cG,setBlock]);(·simp[Instr.mapUpdate,run_underlying ht,MapKept.run_getObj_map hb,K.check w false yE,h1,MapKept.run_setObj_map _ hb,cG,setBlock]));(·(have hj:es[j]? =some e0:=by simpa using h2);have eL:=heap_setBlock_same hb (.map es gK);(have hsame:es.modify j (fun e=>{e with key:=key})=es:=by apply Array.ext';rw[Array.toList_modify,ChangeMaps.modify_eq_set _ _ _ _ h2];exact WideElems.set_self _ _ _ (by rw[h2,←h3]));(have hidx:es.findIdx? (fun e=>((e.born:Nat):Int)==((e0.born:Nat):Int))=some j:=by rw[WideElems.findIdx_arr];exact WideElems.findIdx_born s2 h2);(have UO:es.modify j (fun e=>{e with val:=val})=es.modify j (fun e'=>{e' with key:=key,val:=val}):=by apply Array.ext';rw[Array.toList_modify,Array.toList_modify,ChangeMaps.modify_eq_set _ _ _ _ h2,ChangeMaps.modify_eq_set _ _ _ _ h2,←h3]);refine⟨e0.val,e0.born,es,gK,es.modify j (fun e'=>{e' with key:=key,val:=val}),gK,?_,?_,?_⟩;(·simp[Instr.mapEntry,run_underlying ht,MapKept.run_getObj_map hb,K.check w false yE,h1,hj,h3,K.stays w yE,hsame,MapKept.run_setObj_map _ hb,cG,setBlock,goInt]);(·(conv=>rhs;rw[←jB (.map es gK)]);revert eL;generalize setBlock w A (.map es gK)=w2;intro eL;simp[Instr.entryStore,MapKept.run_getObj_map eL,asInt,asIntOf,hidx,UO,MapKept.run_setObj_map _ eL,cG,setBlock]);(·simp[Instr.mapUpdate,run_underlying ht,MapKept.run_getObj_map hb,K.check w false yE,h1,hj,h3,K.stays w yE,MapKept.run_setObj_map _ hb,cG,setBlock]))
theorem Qz {A n:Nat} (h:fR w A n l) {k:Int} (hk:lJ k) (hn:n≤1000000):∃v0 st w1 w2,(Instr.mapEntry 144 (.map (some A)) (cS dA k)).run U w=.ok (.tuple #[v0,cS dA st]) w1∧
 (Instr.entryStore 144 (.map (some A)) (.int .i64 st) (.bool true)).run U w1=.ok () w2∧fR w2 A (n+1) (l++[k])∧w.grownBy w2 (some A)∧w.grownBy w1 (some A):=by have h0:=h;obtain⟨es,gK,hb,F,hs,hD⟩:=h;have yE:=Maps.keyOf_int_mk bG (Rx hk);obtain⟨v0,st,es1,qw,es',qx,fK,iS,qG⟩:=Hn hb F yE (.bool true);obtain⟨w',hu,dU,hg⟩:=World.ownsMap.update h0 (Maps.int_keyed bG) Tryz.underlying144 (by unfold maxLen;omega) yE (val:=.bool true) (d:=.lit (.bool true)) (ps:=[]) (plainElem_bool bQ true);rw[qG]at hu;injection hu with _ hu;rw[hu]at iS;refine⟨v0,st,_,w',fK,iS,?_,hg,⟨rfl,rfl,rfl,by simp[setBlock],fun i _ hi=>heap_setBlock_other hb _ (fun e=>hi (by rw[e]))⟩⟩;unfold fR;rw[tY];exact dU
structure GSets (w:World) (base n:Nat) (v:Value) (bs:List Nat) (L:List (List Int)):Prop where
 row:w.ownsRow base 144 1 v n (bs.map Cu)
 bl:bs.length=n
 ll:L.length=n
 nb:bs.Nodup
 sets:∀i (h:i<bs.length),base≤bs[i]∧fR w bs[i] n (L.getD i [])
 rng:∀i,∀x∈L.getD i [],Cb n x
def Og (L:List (List Int)) (a b:Nat):List (List Int):=L.set a (L.getD a []++[(b:Int)])
def tE (L:List (List Int)) (a b:Nat):List (List Int):=if a=b then L else Og (Og L a b) b a
theorem Mb {a:Nat} (ha:a<L.length):x∈(Og L a b).getD i []↔x∈L.getD i []∨(i=a∧x=b):=by unfold Og;rw[lS ha];by_cases e:i=a;(·subst e;rw[if_pos rfl,List.mem_append,aK];simp);(·rw[if_neg e];simp[e])
theorem Zo (L:List (List Int)) (a b:Nat):(Og L a b).length=L.length:=cQ
theorem Az {a:Nat} (ha:a<L.length) (hb:b<L.length):x∈(tE L a b).getD i []↔x∈L.getD i []∨(a≠b∧((i=a∧x=b)∨(i=b∧x=a))):=by unfold tE;by_cases e:a=b;(·rw[if_pos e];simp[e]);(·rw[if_neg e,Mb (by rw[Zo];exact hb),Mb ha];simp only[ne_eq,e,not_false_eq_true,true_and];rw[or_assoc])
theorem GSets.fr {n:Nat} (h:GSets w base n v bs L) (f:EFr B chg w w') (hc:144∉chg):GSets w' base n v bs L:=
 ⟨f.row h.row hc,h.bl,h.ll,h.nb,fun i hi=>⟨(h.sets i hi).1,gT (h.sets i hi).2 (f.block _ (dS (h.sets i hi).2).1 (.inr fun cs t fz e=>absurd e ((dS (h.sets i hi).2).2 cs t fz)))⟩,h.rng⟩
theorem GSets.add {n:Nat} (h:GSets w base n v bs L) {a:Nat} (ha:a<bs.length) (hb:b<n) (hg:w.grownBy w' (some bs[a])) (hs:fR w' bs[a] (n+1) (L.getD a []++[(b:Int)])):GSets w' base n v bs (Og L a b):=by(have Vi:a<L.length:=by rw[h.ll,←h.bl];exact ha);(have hr:∀i,∀x∈(Og L a b).getD i [],Cb n x:=fun i x hx=>by rcases(Mb Vi).1 hx with hx|⟨_,rfl⟩;(·exact h.rng i x hx);(·exact⟨by omega,by omega⟩));refine⟨dR h.row fun g cs e=>hg.block g (dB e) fun e'=>?_,h.bl,by rw[Zo];exact h.ll,h.nb,fun i hi=>?_,hr⟩;(·injection e' with e';rw[e']at e;exact(dS (h.sets a ha).2).2 _ _ _ e);(·have ld:=hr i;unfold Og at ld⊢;rw[lS Vi]at ld⊢;by_cases e:i=a;(·subst e;rw[if_pos rfl]at ld⊢;exact⟨(h.sets i hi).1,sW hs ld⟩);(·exact V315))
structure GrAt (w:World) (base bg n:Nat) (va vl:Value) (bs:List Nat) (L:List (List Int)):Prop where
 box:w.heap[bg]? =some (cY #[va,vl] 147 (0,0))
 og:base≤bg
 sets:GSets w base n va bs L
 long:∃l:List Bool,w.ownsRow base 4 1 vl n (l.map Value.bool)
theorem wu {g:Nat} (h:w.grownBy w1 (some g)) {n:Nat} (hs:fR w g n l) (hB:B≤g):EFc B [] w w1:=EFc.map h (dS hs).2 hB
theorem GrAt.c {n:Nat} {L':List (List Int)} (h:GrAt w base bg n va vl bs L) (f:EFc B chg w w') (h1:147∉chg) (h2:4∉chg) (hs:GSets w' base n va bs L'):GrAt w' base bg n va vl bs L':=
 ⟨f.obj h.box h1,h.og,hs,h.long.imp fun l hl=>f.row hl h2⟩
theorem Ef (base bg n:Nat) (va vl:Value) (bs:List Nat) (L:List (List Int)) (a b:Nat) (w:World) (h:GrAt w base bg n va vl bs L) (ha:a<n) (hb:b<n) (hn:n≤10000) (hB:base≤w.heap.size):
 O U 102 #[cW (some ⟨bg,0,none⟩),cS dA (a:Nat),cS dA (b:Nat)] w fun x w'=>x=cZ (.tuple #[])∧GrAt w' base bg n va vl bs (tE L a b)∧EFc base [] w w'∧Only bs w w':=by
 by_cases Yn:a=b;(·subst Yn;have HS:Hid (tE L a a=L):=Ih (by unfold tE;rw[if_pos rfl]);have H:=Ih h;(have he:((a:Int) !=(a:Int))=false:=by simp);clear h;go_in;go_wp2_with fail;go_end0;exact⟨rfl,by rw[HS.out];exact H.out,EFc.refl _ _ _,Only.refl _ _⟩)
 ·(have Ua:a<bs.length:=by rw[h.sets.bl];exact ha);(have Tv:b<bs.length:=by rw[h.sets.bl];exact hb);have HS:Hid (tE L a b=Og (Og L a b) b a):=Ih (by unfold tE;rw[if_neg Yn]);obtain⟨g,k,rfl,vP,oE,KO,yG,yI⟩:=eN h.sets.row Om;have Qr:=yI a _ (by rw[bH,aB Ua];rfl);have zL:=yI b _ (by rw[bH,aB Tv];rfl);unfold Cu at Qr zL;have hA:=(h.sets.sets a Ua).2;have WF:=(h.sets.sets a Ua).1;have hbB:=(h.sets.sets b Tv).1;have h64:∀q:Nat,q<n→lJ (q:Int):=fun q hq=>⟨by omega,by omega⟩;obtain⟨u1,st1,w1,w2,fK,iS,vg,E3,VL⟩:=Qz (w:=w.drew) (h:=hA) (h64 b hb) Om;have Kq:w.grownBy w2 (some bs[a]):=⟨E3.os,E3.tape,E3.output,E3.size,E3.block⟩;have hG2:=h.sets.add Ua hb Kq vg;have Nb:=(hG2.sets b Tv).2;obtain⟨u3,st3,w3,w4,qG,xC,D2,zW,zK⟩:=Qz Nb (h64 a ha) Om;have hG4:=hG2.add Tv ha zW D2
  have fG:∀{q:Nat} (hq:q<bs.length),some bg≠some bs[q]∧some g≠some bs[q]:=fun{q} hq=>⟨fun e=>by
   injection e with e
   exact(dS (h.sets.sets q hq).2).2 _ _ _ (by rw[←e];exact h.box),fun e=>by
   injection e with e
   obtain⟨_,cs,fz,h2⟩:=lC h.sets.row g rfl
   exact(dS (h.sets.sets q hq).2).2 _ _ _ (by rw[←e];exact h2)⟩
  have hlb:=dB h.box;have HD1:Hid (w1.heap[bg]? =w.heap[bg]?∧w1.heap[g]? =w.heap[g]?):=Ih ⟨VL.block bg hlb (fG Ua).1,VL.block g yG (fG Ua).2⟩;have xP:Hid (w2.heap[bg]? =w.heap[bg]?∧w2.heap[g]? =w.heap[g]?):=Ih ⟨Kq.block bg hlb (fG Ua).1,Kq.block g yG (fG Ua).2⟩;have hs2z:=Kq.size;have tr:Hid (w3.heap[bg]? =w.heap[bg]?∧w3.heap[g]? =w.heap[g]?):=Ih ⟨(zK.block bg Om (fG Tv).1).trans xP.out.1,(zK.block g Om (fG Tv).2).trans xP.out.2⟩;have dy:Hid (w4.heap[bg]? =w.heap[bg]?∧w4.heap[g]? =w.heap[g]?):=Ih ⟨(zW.block bg Om (fG Tv).1).trans xP.out.1,(zW.block g Om (fG Tv).2).trans xP.out.2⟩;have HF:Hid (EFc base [] w w4):=Ih ((wu Kq hA WF).trans (wu zW Nb hbB));have HON:Hid (Only bs w w4):=Ih ((Only.grown Kq (fun q e=>by injection e with e;rw[←e];exact aE Ua)).trans (Only.grown zW (fun q e=>by injection e with e;rw[←e];exact aE Tv)));have HG:=Ih hG4;have H:=Ih h;have ZQ:=Ih h.box;(have he:((a:Int) !=(b:Int))=true:=by rw[bne_iff_ne];omega);have hai:(a:Int)<n:=Om;have hbi:(b:Int)<n:=Om;have zV:(n:Int)≤k:=Om;unfold maxLen at oE;obtain⟨A,hAe⟩:∃A,A=bs[a]:=⟨_,rfl⟩;obtain⟨B,BR⟩:∃B,B=bs[b]:=⟨_,rfl⟩;rw[←hAe]at Qr fK iS;rw[←BR]at zL qG xC;have NG:=Ih Qr;have HCB:=Ih zL;clear h yI hA WF hbB h64 vg E3 VL Kq hG2 Nb D2 zW zK hG4 hAe BR Yn fG Qr zL hs2z;go_in;go_wp2_with fail;refine dP (fun w'=>w'.heap[bg]? =w.heap[bg]?∧w'.heap[g]? =w.heap[g]?) [] [([0,1,2,3,4,5,6,7,8,9,10,11,12,13,14,15],16),([17],18),([],19),([20],21)] [] eE Kr (fun _ _ d _ _ h=>by cases d<;>exact h) (⟨rfl,rfl⟩) ?_;intro ι _ F HD HE;have fb:=fun n=>qV ((HD.out n).1.trans ZQ.out);have fa:=fun n=>(bT (a:=⟨g,a,none⟩) (HD.out n).2).trans NG.out;have fc:=fun n=>(bT (a:=⟨g,b,none⟩) (HD.out n).2).trans HCB.out;refine dL ?_;have Z0g:=0;exact V3
end
section
open Go.RowKit Go.Shelf Ob Ty
def RgAt (w:World) (b r n:Nat) (l done:List Int) (cnt:Nat):Prop:=∃left:Lit→Bool,w.ranges U 3 (plainElem (H:=Unit) U 4) b r n (Cv l) left cnt∧∀y,left (.int .i64 y)=(l.contains y&&!done.contains y)
theorem RgAt.keep {n cnt:Nat} {done:List Int} (h:RgAt w b r n l done cnt) (hb:w'.heap[b]? =w.heap[b]?) (hr:w'.heap[r]? =w.heap[r]?):RgAt w' b r n l done cnt:=by obtain⟨left,⟨es,gK,uj,seen,c0,h1,h2,h3,h4,h5,h6⟩,hl⟩:=h;exact⟨left,⟨es,gK,uj,seen,c0,hb.trans h1,h2,h3,h4,hr.trans h5,h6⟩,hl⟩
theorem RgAt.lt {n cnt:Nat} {done:List Int} (h:RgAt w b r n l done cnt):r<w.heap.size∧b<w.heap.size∧r≠b:=by obtain⟨left,h,_⟩:=h;refine⟨h.lt,?_,h.ne⟩;obtain⟨es,gK,uj,seen,c0,h1,_⟩:=h;exact dB h1
theorem RgAt.cells {n cnt:Nat} {done:List Int} (h:RgAt w b r n l done cnt):∀(cs:Array Value) (t:TypeId) (fz:Nat×Nat),w.heap[r]?≠some (Obj.cells cs t fz):=by obtain⟨left,⟨es,gK,uj,seen,c0,h1,h2,h3,h4,h5,h6⟩,hl⟩:=h;intro cs t fz e;rw[h5]at e;cases e
theorem RgAt.nomap {n cnt:Nat} {done:List Int} (h:RgAt w b r n l done cnt) {b':Nat} {l':List Int} (h':fR w b' n' l'):r≠b':=by obtain⟨left,⟨es,gK,uj,seen,c0,h1,h2,h3,h4,h5,h6⟩,hl⟩:=h;obtain⟨es',cl',h7,_⟩:=h';intro e;rw[←e,h5]at h7;cases h7
section
variable {w:World} {ops:Array Oper} {rest:List Oper} {o:Oper} {a:Act} {Q:Exit→Act→World→Prop}
theorem Ej {n:Nat} (h:fR w b n l) (m:Operand) (hg:o.guard=none) (fL:o.op=Op.range 144 m) (hm:a.eval m=.map (some b))
 (hK:∀w' cnt,RgAt w' b w.heap.size n l [] cnt→w.grownBy w' none→w'.heap.size=w.heap.size+1→wpList U ops Q rest (a.put o.dst (.pointer (some ⟨w.heap.size,0,none⟩))) w'):wpList U ops Q (o::rest) a w:=by refine wpList_range_own w hg m 144 fL 3 4 (Maps.int_keyed bG) Tryz.underlying144 _ b n _ hm h fun w' h1 h2 h3=>hK w' _ ⟨_,h1,fun y=>?_⟩ h2 h3;rw[Yl];simp
theorem Ps {n cnt:Nat} {done:List Int} (h:RgAt w b r n l done cnt) (it:Operand) (hg:o.guard=none) (fL:o.op=Op.next it false) (Hm:a.eval it=cW (some ⟨r,0,none⟩))
 (hDone:(∀y∈l,y∈done)→wpList U ops Q rest (a.put o.dst (.tuple #[cV false])) w)
 (hMore:∀(x:Int) (c:Value) (w':World) (LV:Nat),x∈l→x∉done→RgAt w' b r n l (done++[x]) LV→LV<cnt→w.grownBy w' (some r)→w'.heap.size=w.heap.size→(Instr.entry (cW (some ⟨r,0,none⟩))).run U w'=.ok (.tuple #[cS dA x,c]) w'→wpList U ops Q rest (a.put o.dst (.tuple #[cV true,cS dA x,c])) w'):wpList U ops Q (o::rest) a w:=by
 obtain⟨left,hr,hl⟩:=h
 refine wpList_next_ranges w hg it fL 3 (Maps.int_keyed bG) _ (bL .i64) Value.bool (fun key kl yE=>by obtain⟨x,rfl,_⟩:=Maps.keyOf_int_inv bG yE;exact⟨x,rfl⟩)
  (fun v y hv=>?_) b r n _ left cnt Hm hr (fun _ h0=>hDone fun y hy=>?_) (fun x c kl y w' LV yE Nu hv jU mD dH nI gO mu=>?_)
 (·cases v<;>simp[plainElem,bQ]at hv;exact⟨_,rfl⟩);(·have:=hl y;rw[h0,List.contains_iff_mem.2 hy,Bool.true_and]at this;(have:done.contains y=true:=by revert this;cases done.contains y<;>simp);exact List.contains_iff_mem.1 this);(·obtain⟨x',ex,rfl,hwx⟩:=Maps.keyOf_int_inv bG yE;cases ex;have hx:=hl x;rw[Nu]at hx;have zI:=Bool.and_eq_true_iff.1 hx.symm;refine hMore x (.bool c) w' LV (List.contains_iff_mem.1 zI.1) (fun hm=>by rw[List.contains_iff_mem.2 hm]at zI;simp at zI) ⟨_,mD,fun y=>?_⟩ dH nI gO mu;rw[hl y,Fv];by_cases e:y=x;(·subst e;simp);(·rw[decide_eq_false e];(have:(done++[x]).contains y=done.contains y:=by rw[Bool.eq_iff_iff,List.contains_iff_mem,List.contains_iff_mem,List.mem_append,aK];simp[e]);rw[this];simp))
end
theorem ww:tL U 100 4 1:=kP (z:=.bool false) (bytes:=1) Tryz.underlying100 Kr De De De
structure GMk (w wr:World) (bg n:Nat) (bc:Array Value) (va vl:Value) (bs:List Nat):Prop where
 bel:dG w wr
 body:wr.heap[w.heap.size]? =some (cY bc 48 (0,0))
 box:wr.heap[bg]? =some (cY #[va,vl] 147 (0,0))
 og:w.heap.size≤bg
 row:wr.ownsRow w.heap.size 144 1 va n (bs.map Cu++cC (n-bs.length) (Value.map none))
 nb:bs.Nodup
 sets:∀i (h:i<bs.length),w.heap.size≤bs[i]∧fR wr bs[i] 0 []
 long:∃l:List Bool,wr.ownsRow w.heap.size 4 1 vl n (l.map Value.bool)
theorem GMk.more {n ga:Nat} {bc:Array Value} (h:GMk w wr bg n bc (cT (some ⟨ga,0,none⟩) n k) vl bs) (hl:bs.length<n):
 GMk w ((wr.alloc (.map #[] 0)).setCell ⟨ga,bs.length,none⟩ (.map (some wr.heap.size))) bg n bc (cT (some ⟨ga,0,none⟩) n k) vl (bs++[wr.heap.size]):=by have f1:EFr w.heap.size [144] wr (wr.alloc (.map #[] 0)):=.of ((aC _ _).alloc (aA _) _);have Qg:=h.row.alloc (.map #[] 0);obtain⟨oT,yG⟩:=Qg.stored bs.length (.map (some wr.heap.size));(have f2:EFr w.heap.size [144] (wr.alloc (.map #[] 0)) ((wr.alloc (.map #[] 0)).setCell ⟨ga,bs.length,none⟩ (.map (some wr.heap.size))):=EFr.grown yG fun g e=>by injection e with e;subst e;obtain⟨h1,cs,fz,h2⟩:=lC Qg ga rfl;exact⟨h1,cs,_,fz,h2,by simp⟩);have f:=f1.trans f2;have hold:∀i (hi:i<bs.length),bs[i]<wr.heap.size:=fun i hi=>(dS (h.sets i hi).2).1;refine⟨h.bel.trans (f.below h.bel.size),f.obj h.body De,f.obj h.box De,h.og,?_,?_,fun i hi=>?_,h.long.imp fun l hl=>f.row hl De⟩;(·(have e:(bs.map Cu++cC (n-bs.length) (Value.map none)).set bs.length (Value.map (some wr.heap.size))=(bs++[wr.heap.size]).map Cu++cC (n-(bs++[wr.heap.size]).length) (Value.map none):=by exact V141);rw[←e];exact oT);(·exact V313);(·exact V47)
structure Bld (w wr:World) (bg n nc:Nat) (bc:Array Value) (va vl v5:Value) (bs wN:List Nat) (L5 L:List (List Int)):Prop where
 bel:dG w wr
 body:wr.heap[w.heap.size]? =some (cY bc 48 (0,0))
 gr:GrAt wr w.heap.size bg n va vl bs L
 sets:SetsAt wr w.heap.size nc v5 wN L5
 apart:∀x∈wN,x∉bs
section
variable {w wr w':World} {bg n nc:Nat} {bc:Array Value} {va vl v5:Value} {bs wN:List Nat} {L5 L L':List (List Int)}
theorem GrAt.old (h:GrAt wr B bg n va vl bs L) (hb:dG wr w'):GrAt w' B bg n va vl bs L:=h.c (EFr.of (B:=0) (chg:=[]) hb).c Si Si (h.sets.fr (EFr.of (B:=0) (chg:=[]) hb) Si)
theorem Bld.old (h:Bld w wr bg n nc bc va vl v5 bs wN L5 L) (hb:dG wr w'):Bld w w' bg n nc bc va vl v5 bs wN L5 L:=
 ⟨Tm h.bel hb,Kb hb h.body,h.gr.old hb,h.sets.fr (EFr.of (B:=0) (chg:=[]) hb) Si,h.apart⟩
theorem Bld.nomap (h:Bld w wr bg n nc bc va vl v5 bs wN L5 L) {m cnt:Nat} {done:List Int} (hr:RgAt wr b r m l done cnt):r∉bs∧r∉wN:=by constructor;(·intro hm;obtain⟨j,hj,e⟩:=aQ hm;exact hr.nomap (h.gr.sets.sets j hj).2 e.symm);(·exact V546)
theorem SetsAt.only {m:Nat} {l:List Nat} {q:List Nat} {K:List (List Int)} (h:SetsAt wr B m v q K) (ho:Only l wr w') (hq:∀x∈q,x∉l) (hc:∀x∈l,∀(cs:Array Value) (fz:Nat×Nat),wr.heap[x]?≠some (Obj.cells cs 144 fz)):SetsAt w' B m v q K:=
 ⟨dR h.row fun g cs e=>ho.block g (dB e) fun hm=>hc g hm _ _ e,h.bl,h.ll,h.nb,fun i hi=>⟨(h.sets i hi).1,gT (h.sets i hi).2 (ho.block _ (dS (h.sets i hi).2).1 (hq _ (aE hi)))⟩⟩
theorem GSets.only {m:Nat} {l:List Nat} {q:List Nat} {K:List (List Int)} (h:GSets wr B m v q K) (ho:Only l wr w') (hq:∀x∈q,x∉l) (hc:∀x∈l,∀(cs:Array Value) (fz:Nat×Nat),wr.heap[x]?≠some (Obj.cells cs 144 fz)):GSets w' B m v q K:=
 ⟨dR h.row fun g cs e=>ho.block g (dB e) fun hm=>hc g hm _ _ e,h.bl,h.ll,h.nb,fun i hi=>⟨(h.sets i hi).1,gT (h.sets i hi).2 (ho.block _ (dS (h.sets i hi).2).1 (hq _ (aE hi)))⟩,h.rng⟩
theorem Only.obj {l:List Nat} (h:Only l wr w') {o:Obj} (hb:wr.heap[b]? =some o) (hn:b∉l):w'.heap[b]? =some o:=(h.block b (dB hb) hn).trans hb
theorem Only.row {l:List Nat} (h:Only l wr w') {m s:Nat} (ho:wr.ownsRow B e s v m xs) (hn:∀g,v.ownBlock=some g→g∉l):w'.ownsRow B e s v m xs:=by rcases ho.2 with h0|⟨g,gN,mU,rfl,h1,h2,h3⟩;(·exact⟨ho.1,.inl h0⟩);(·exact⟨ho.1,.inr ⟨g,gN,mU,rfl,h1,h.obj h2 (hn g rfl),h3⟩⟩)
def lG (w:World) (l:List Nat):Prop:=∀x∈l,∀(cs:Array Value) (t:TypeId) (fz:Nat×Nat),w.heap[x]?≠some (Obj.cells cs t fz)
theorem Only.obj' {l:List Nat} (h:Only l wr w') (hc:lG wr l) {t:TypeId} {fz:Nat×Nat} (hb:wr.heap[b]? =some (cY cs t fz)):w'.heap[b]? =some (cY cs t fz):=h.obj hb fun hm=>hc b hm _ _ _ hb
theorem Only.row' {l:List Nat} (h:Only l wr w') (hc:lG wr l) {m s:Nat} (ho:wr.ownsRow B e s v m xs):w'.ownsRow B e s v m xs:=dR ho fun g cs e=>h.block g (dB e) fun hm=>hc g hm _ _ _ e
theorem Bld.no (h:Bld w wr bg n nc bc va vl v5 bs wN L5 L):lG wr bs:=fun x hx cs t fz e=>by
 obtain⟨j,hj,rfl⟩:=aQ hx
 exact(dS (h.gr.sets.sets j hj).2).2 _ _ _ e
theorem Bld.split (h:Bld w wr bg n nc bc va vl v5 bs wN L5 L) (ho:Only bs wr w') (hg:GrAt w' w.heap.size bg n va vl bs L'):Bld w w' bg n nc bc va vl v5 bs wN L5 L':=
 ⟨h.bel.trans (ho.below (fun x hx=>by obtain⟨j,hj,rfl⟩:=aQ hx;exact(h.gr.sets.sets j hj).1) h.bel.size),ho.obj' h.no h.body,hg,h.sets.only ho h.apart fun x hx cs fz=>h.no x hx cs _ fz,h.apart⟩
theorem Bld.other (h:Bld w wr bg n nc bc va vl v5 bs wN L5 L) {l:List Nat} (ho:Only l wr w') (hc:lG wr l) (hl:∀x∈l,w.heap.size≤x∧x∉bs∧x∉wN):Bld w w' bg n nc bc va vl v5 bs wN L5 L:=by have h1:∀x∈bs,x∉l:=fun x hx hm=>(hl x hm).2.1 hx;have h2:∀x∈wN,x∉l:=fun x hx hm=>(hl x hm).2.2 hx;exact⟨h.bel.trans (ho.below (fun x hx=>(hl x hx).1) h.bel.size),ho.obj' hc h.body,⟨ho.obj' hc h.gr.box,h.gr.og,h.gr.sets.only ho h1 fun x hx cs fz=>hc x hx cs _ fz,h.gr.long.imp fun q hq=>ho.row' hc hq⟩,h.sets.only ho h2 fun x hx cs fz=>hc x hx cs _ fz,h.apart⟩
theorem RgAt.only {l:List Nat} {m cnt:Nat} {k done:List Int} (h:RgAt wr b r m k done cnt) (ho:Only l wr w') (hb:b∉l) (hr:r∉l):RgAt w' b r m k done cnt:=h.keep (ho.block b h.lt.2.1 hb) (ho.block r h.lt.1 hr)
end
theorem Bld.long {n nc:Nat} {bc:Array Value} {wN:List Nat} {L5:List (List Int)} (h:Bld w wr bg n nc bc va vl v5 bs wN L5 L) (f:EFr w.heap.size [4] wr w') (hl:∃l:List Bool,w'.ownsRow w.heap.size 4 1 vl n (l.map Value.bool)):Bld w w' bg n nc bc va vl v5 bs wN L5 L:=
 ⟨h.bel.trans (f.below h.bel.size),f.obj h.body De,⟨f.obj h.gr.box De,h.gr.og,h.gr.sets.fr f De,hl⟩,h.sets.fr f De,h.apart⟩
theorem RgAt.nocell {n cnt:Nat} {done:List Int} (h:RgAt w b r n l done cnt):∀(cs:Array Value) (t:TypeId) (fz:Nat×Nat),w.heap[b]?≠some (Obj.cells cs t fz):=by obtain⟨left,h1,_⟩:=h;exact(dS (n:=n) (l:=l) h1.owns).2
theorem SetsAt.lower {B' n:Nat} (h:SetsAt w B n v bs L) (hB:B'≤B):SetsAt w B' n v bs L:=⟨mB h.row hB,h.bl,h.ll,h.nb,fun i hi=>⟨aG hB (h.sets i hi).1,(h.sets i hi).2⟩⟩
theorem Yr (n i:Nat):(cC n ([]:List Int)).getD i []=[]:=by exact V414
theorem GMk.done {n:Nat} {bc:Array Value} (h:GMk w wr bg n bc va vl bs) (hl:bs.length=n):GrAt wr w.heap.size bg n va vl bs (cC n []):=by refine⟨h.box,h.og,⟨?_,hl,List.length_replicate,h.nb,fun i hi=>?_,fun i x hx=>?_⟩,h.long⟩;(·have:=h.row;rw[hl,Nat.sub_self,List.replicate_zero,List.append_nil]at this;exact this);(·rw[Yr];exact⟨(h.sets i hi).1,sW (h.sets i hi).2 (fun x hx=>by cases hx)⟩);(·rw[Yr]at hx;cases hx)
def PairsTo (code:List Ty.Ord) (l0:List Int) (i:Nat) (L:List (List Int)):Prop:=
 (∀x∈l0,∀y∈l0,x≠y→y∈L.getD x.toNat [])∧∀(i':Nat) (o':Ty.Ord),i'<i→code[i']? =some o'→∀x∈o'.d,∀y∈o'.d,x≠y→y∈L.getD x.toNat []
theorem PairsTo.mono {code:List Ty.Ord} {l0:List Int} {L':List (List Int)} (h:PairsTo code l0 i L) (hm:∀(q:Nat) (x:Int),x∈L.getD q []→x∈L'.getD q []):PairsTo code l0 i L':=
 ⟨fun x hx y hy fM=>hm _ _ (h.1 x hx y hy fM),fun i' o' h1 h2 x hx y hy fM=>hm _ _ (h.2 i' o' h1 h2 x hx y hy fM)⟩
theorem PairsTo.next {code:List Ty.Ord} {l0:List Int} (h:PairsTo code l0 i L) {o:Ty.Ord} (ho:code[i]? =some o) (hd:∀x∈o.d,∀y∈o.d,x≠y→y∈L.getD x.toNat []):PairsTo code l0 (i+1) L:=
 ⟨h.1,fun i' o' h1 h2=>by
  by_cases e:i'=i
  ·subst e
   rw[ho]at h2
   injection h2 with h2
   subst h2
   exact hd
  ·exact h.2 i' o' Om h2⟩
theorem I4 (b:oJ) (v:BV) (n:Nat) (w:World) (hb:BodAt w b v) (kC:b.regs=(n:Nat)) (hn:n≤200) (FI:0<v.nc) (jA:v.nc≤200)
 (sL:∀(i:Nat) (o:Ty.Ord),b.code[i]? =some o→∀k∈jD o i,0≤k∧k<b.code.length) (hs:∀(i:Nat) (o:Ty.Ord),b.code[i]? =some o→∀r∈o.s,Cb n r) (hd:∀(i:Nat) (o:Ty.Ord),b.code[i]? =some o→∀r∈o.d,Cb n r):
 O U 57 #[gG v b] w fun x w'=>∃bg va vl bs L,x=cZ (cW (some ⟨bg,0,none⟩))∧GrAt w' w.heap.size bg n va vl bs L∧(∀x y,Live b.code 0 x→Live b.code 0 y→x≠y→y∈L.getD x.toNat [])∧
  (∀(i:Nat) (o:Ty.Ord),b.code[i]? =some o→∀x∈o.d,∀y∈o.d,x≠y→y∈L.getD x.toNat [])∧dG w w':=by
 have gQ:=hb.cl;have qT:=hb.ck;have zL:=hb.cb;have yH:=hb.code;have jB:=fun w' (dJ:dG w w')=>Wj b v n w' (hb.below dJ) hn FI jA sL hs;obtain⟨c,co,gP,hc,dM⟩:=yH.get Om;unfold gG at jB⊢;obtain⟨nc,wJ⟩:=Ex v.nc;obtain⟨code,vQ⟩:=Ex b.code;obtain⟨kc,oU⟩:=Ex v.kc;obtain⟨bn,xM⟩:=Ex b.name;obtain⟨bt,Fd⟩:=Ex v.tv;rw[gP,←wJ,←oU,←xM,←Fd,kC,←vQ]at jB;rw[gP,←wJ,←oU,←xM,←Fd,kC];rw[gP]at yH;rw[←vQ]at sL hs hd gQ yH dM⊢;rw[←wJ]at gQ qT FI jA;rw[←oU]at qT zL;have qK:=Ih gQ;have Bp:=Ih sL;have HS:=Ih hs;have HDD:=Ih hd;have mN:=Ih dM;have EN:=Ih yH;have QP:=Ih jB;have zV:(nc:Int)≤kc:=Om;clear hb gQ sL hs hd dM yH jB gP wJ vQ oU xM Fd kC;have ny:dG w (w.alloc (cY #[cU bn,cV b.static,cS dA b.ty.kind,cU b.ty.name,cT bt.pn bt.nn bt.kn,cT bt.pp bt.np bt.kp,cV b.ty.many,cS dA (n:Nat),cT (some ⟨c,co,none⟩) nc kc] 48)):=(aC _ _).alloc (aA _) _;have nz:(w.alloc (cY #[cU bn,cV b.static,cS dA b.ty.kind,cU b.ty.name,cT bt.pn bt.nn bt.kn,cT bt.pp bt.np bt.kp,cV b.ty.many,cS dA (n:Nat),cT (some ⟨c,co,none⟩) nc kc] 48)).heap[w.heap.size]? =some (cY #[cU bn,cV b.static,cS dA b.ty.kind,cU b.ty.name,cT bt.pn bt.nn bt.kn,cT bt.pp bt.np bt.kp,cV b.ty.many,cS dA (n:Nat),cT (some ⟨c,co,none⟩) nc kc] 48 (0,0)):=aH w _;obtain⟨W,hW⟩:=Ex (w.alloc (cY #[cU bn,cV b.static,cS dA b.ty.kind,cU b.ty.name,cT bt.pn bt.nn bt.kn,cT bt.pp bt.np bt.kp,cV b.ty.many,cS dA (n:Nat),cT (some ⟨c,co,none⟩) nc kc] 48));rw[←hW]at ny nz;have mG:=Ih ny;have Rt:=Ih nz;have QL:=Ih hW;clear ny nz hW;go_in;go_upto_region 1 with fail;rw[←QL.out];go_cut[3]from 20 to 28 (fun v3 wx=>∃bg va vl,v3=cW (some ⟨bg,0,none⟩)∧GMk w wx bg n #[cU bn,cV b.static,cS dA b.ty.kind,cU b.ty.name,cT bt.pn bt.nn bt.kn,cT bt.pp bt.np bt.kp,cV b.ty.many,cS dA (n:Nat),cT (some ⟨c,co,none⟩) nc kc] va vl []);(case first=>have bb:Hid (W.drew.heap[w.heap.size]? =some (cY #[cU bn,cV b.static,cS dA b.ty.kind,cU b.ty.name,cT bt.pn bt.nn bt.kn,cT bt.pp bt.np bt.kp,cV b.ty.many,cS dA (n:Nat),cT (some ⟨c,co,none⟩) nc kc] 48 (0,0))∧dG W W.drew):=Ih ⟨Rt,dD W⟩;refine iP (fun w'=>w'.heap[w.heap.size]? =some (cY #[cU bn,cV b.static,cS dA b.ty.kind,cU b.ty.name,cT bt.pn bt.nn bt.kn,cT bt.pp bt.np bt.kp,cV b.ty.many,cS dA (n:Nat),cT (some ⟨c,co,none⟩) nc kc] 48 (0,0))∧dG W w') [] (.two [0,1,3,4] 2 (.one [] 5 (.one [6] 7 (.fin [8]))) 5 (.one [] 2 (.one [6] 7 (.fin [8])))) eE Kr (fun _ _ d _ _ h=>by cases d<;>exact h) (bb) ?_;intro ι _ F HD HE;have fz:=fun n=>jV (HD n).1;refine Jb ?_;have Z0h:=0;exact V3)
 case rest=>
  obtain⟨bg,va,vl,rfl,Ql⟩:=hcut;have RD:=Ih Ql;obtain⟨lq0,hlq0⟩:=Ql.long;obtain⟨pl,kl,rfl,hkl1,hkl2⟩:=dI hlq0;clear hlq0;obtain⟨pa,ka,rfl,VC,KC⟩:=dI Ql.row;obtain⟨g0,g1,gf⟩:=qV Ql.box;have Qk:=@run_makeMap U;unfold maxLen at KC hkl2;clear Ql mG Rt QL;go_wp2_with fail;go_loopg[33] n (fun gk v33 wx=>∃(i:Nat) (bs:List Nat),i≤n∧gk=n-i∧v33=cS dA i∧bs.length=i∧GMk w wx bg n #[cU bn,cV b.static,cS dA b.ty.kind,cU b.ty.name,cT bt.pn bt.nn bt.kn,cT bt.pp bt.np bt.kp,cV b.ty.many,cS dA (n:Nat),cT (some ⟨c,co,none⟩) nc kc] (cT pa n ka) (cT pl n kl) bs);(case atStart=>exact⟨0,[],aJ _,rfl,rfl,rfl,RD⟩)
  case round=>
   obtain⟨i,bs,hi,hgk,rfl,hU,Ql⟩:=hrel;have HG:=Ih hgk;have HK:=Ih Ql;have jC:=Ih hU;clear hgk Ql hU;obtain⟨g0,g1,gf⟩:=qV HK.box;by_cases dH:i<n;(·obtain⟨ga,ca,BG,-,-,-,hgal,-⟩:=eN HK.row Om;injection BG with BG _ KQ;subst BG KQ;have jI:=HK.row.cellAt i Om;rw[bD (by rw[aI,jC.out];exact aA _),aI,jC.out,Nat.sub_self,List.getElem?_replicate,if_pos Om]at jI;have vz:=HK.row.frozenAt i;have qA:(i:Int)<n:=Om;have hnka:(n:Int)≤ka:=Om;have EA:=HK.more (by rw[jC.out];exact dH);rw[jC.out,World.setCell_alloc_past _ _ _ _ hgal]at EA;have P1:=Ih EA;clear EA dH;go_wp2_with fail;go_roundg (n-(i+1));(case measure=>have:=HG.out;omega);(case rel=>exact⟨i+1,_,by omega,rfl,Gn,by rw[aD,jC.out];rfl,P1⟩))
   ·obtain rfl:n=i:=Om;obtain⟨z0,z1,z2,z3,z4,z5,z6,z7,z8,zz⟩:=jV HK.body;clear dH Qk;go_wp2_with fail;refine(QP wr HK.bel).mono ?_;rintro y w2 ⟨v5,wN,L5,rfl,AC,uC,mJ,hnod,eL⟩
    have HB:Hid (Bld w w2 bg n nc #[cU bn,cV b.static,cS dA b.ty.kind,cU b.ty.name,cT bt.pn bt.nn bt.kn,cT bt.pp bt.np bt.kp,cV b.ty.many,cS dA (n:Nat),cT (some ⟨c,co,none⟩) nc kc] (cT pa n ka) (cT pl n kl) v5 bs wN L5 (cC n [])):=Ih (by
     refine⟨Tm HK.bel eL,Kb eL HK.body,(HK.done jC).old eL,by rw[←qK.out];exact AC.lower HK.bel.size,fun x hx hm=>?_⟩
     obtain⟨j,hj,rfl⟩:=aQ hx
     obtain⟨j',mh,e⟩:=aQ hm
     have h1:=(AC.sets j hj).1
     have h2:=(dS (HK.sets j' mh).2).1
     omega)
    have yp:=Ih uC;have DS:=Ih mJ;clear AC uC mJ hnod eL HK jC HG RD QP z0 z1 z2 z3 z4 z5 z6 z7 z8 zz g0 g1 gf;obtain⟨p5,k5,rfl,hk51,hk52⟩:=dI HB.sets.row;obtain⟨g5,c5,he5,-,-,-,hg5l,VV⟩:=eN HB.sets.row Om;injection he5 with he5 _ hek5;subst he5 hek5;have hbl5:=HB.sets.bl;have h05:0<wN.length:=Om;have LB:=VV 0 _ (by rw[bH,aB h05];rfl);unfold Cu at LB;have Bv:=(HB.sets.sets 0 h05).2;obtain⟨bm,oL⟩:=Ex (wN[0]);obtain⟨l0,Nv⟩:=Ex (L5.getD 0 []);rw[←oL]at LB Bv;rw[←Nv]at Bv;have HL0:Hid (∀r,r∈l0↔Live code 0 r):=Ih (by rw[Nv];exact yp 0);have HRL:Hid (∀r∈l0,Cb n r):=Ih (by rw[Nv];exact DS 0);have RC:Hid ((wN.map Cu)[0]? =some (.map (some bm))):=Ih (by rw[bH,aB h05,oL];rfl);have lW:Hid (bm∈wN):=Ih (by rw[oL];exact aE h05);have HC0:=Ih LB;have EG:=Ih Bv;have hnc5:(nc:Int)≤k5:=Om;have h05i:(0:Int)<nc:=Om;unfold maxLen at hk52;clear VV hbl5 h05 Bv oL Nv;go_wp2_with (at_range;refine Ej EG _ Rf Rf Rf ?_;intro w3 cnt mD zK cy);go_frame;have Vm:=Ih mD;have kU:=Ih (HB.old ⟨zK.os,zK.tape,zK.output,zK.size,fun k hk=>zK.block k hk Si⟩);obtain⟨r0,mZ⟩:=Ex w2.heap.size;(have TP:w.heap.size≤r0:=by rw[mZ];exact HB.bel.size);rw[←mZ]at Vm;rw[←mZ];clear mD zK cy mZ HC0 LB EG;go_loopg[] cnt (fun gk wx=>∃(done:List Int) (L:List (List Int)),RgAt wx bm r0 l0.length l0 done gk∧Bld w wx bg n nc #[cU bn,cV b.static,cS dA b.ty.kind,cU b.ty.name,cT bt.pn bt.nn bt.kn,cT bt.pp bt.np bt.kp,cV b.ty.many,cS dA (n:Nat),cT (some ⟨c,co,none⟩) nc kc] (cT pa n ka) (cT pl n kl) (cT (some ⟨g5,0,none⟩) nc k5) bs wN L5 L∧∀x∈done,∀y∈l0,x≠y→y∈L.getD x.toNat []);(case atStart=>exact⟨[],_,Vm,kU,fun x h=>by cases h⟩)
    case round=>
     obtain⟨done,L,mD,oG,Xt⟩:=hrel;have HR:=Ih mD;have HX:=Ih oG;have HP:=Ih Xt;clear mD oG Xt;go_wp2_with (at_next;refine Ps HR _ Rf Rf Rf ?_ ?_)
     ·intro eT;have Iq:Hid (∀x∈l0,∀y∈l0,x≠y→y∈L.getD x.toNat []):=Ih fun x hx=>HP x (eT x hx);clear eT;obtain⟨z0,z1,z2,z3,z4,z5,z6,z7,z8,zz⟩:=jV HX.body;go_wp2_with fail;go_loopg[69] nc (fun gk v69 wx=>∃(i:Nat) (L:List (List Int)),i≤nc∧gk=nc-i∧v69=cS dA i∧Bld w wx bg n nc #[cU bn,cV b.static,cS dA b.ty.kind,cU b.ty.name,cT bt.pn bt.nn bt.kn,cT bt.pp bt.np bt.kp,cV b.ty.many,cS dA (n:Nat),cT (some ⟨c,co,none⟩) nc kc] (cT pa n ka) (cT pl n kl) (cT (some ⟨g5,0,none⟩) nc k5) bs wN L5 L∧PairsTo code l0 i L);(case atStart=>exact⟨0,L,aJ _,rfl,rfl,HX,Iq,fun i' o' h=>absurd h (Nat.not_lt_zero _)⟩)
      case round=>
       obtain⟨i,L,hi,hgk,rfl,oG,iD⟩:=hrel;have HG:=Ih hgk;have HX:=Ih oG;have dn:=Ih iD;clear hgk oG iD Iq HP HR HB kU Vm;by_cases dH:i<nc
       ·(have eZ:i<code.length:=by rw[qK.out];exact dH);obtain⟨ov,fK,M3⟩:=mN i eZ;obtain⟨o,Ds⟩:=Ex (code[i]);rw[←Ds]at fK M3;(have Nr:code[i]? =some o:=by rw[Ds];exact aB _);have HOO:=Ih Nr;obtain⟨y0,y1,y2,y3,y4,y5,y6,y7,y8,y9⟩:=jY HX.bel hc fK;have QY:=Ih M3;obtain⟨pd,qN⟩:=Ex ov.pd;obtain⟨nd,gZ⟩:=Ex ov.nd;obtain⟨kd,jT⟩:=Ex ov.kd;rw[←qN,←gZ,←jT]at y1;have Rr:Hid (o.d.length=nd):=Ih (by rw[gZ];exact M3.dl);have ZI:Hid (SliceAt w dA pd o.d):=Ih (by rw[qN];exact M3.ds);(have hndk:(nd:Int)≤kd:=by have:=M3.dk;omega);(have hnd9:nd≤9223372036854775807:=by have:=M3.dk;have:=M3.db;omega);have qA:(i:Int)<nc:=Om;(have qS:c<wr.heap.size:=by have:=HX.bel.size;omega);obtain⟨z0,z1,z2,z3,z4,z5,z6,z7,z8,zz⟩:=jV HX.body;have hU:=dB HX.body;have hbl1:w.heap.size<wr.heap.size+1:=Om;have Nx:w.heap.size<wr.heap.size+2:=Om;(have RH:Hid (∀w',dG w w'→O U 103 #[cT (some ⟨c,co,none⟩) nc kc,cS dA (i:Nat)] w' fun x gL=>∃v,x=cZ v∧gL.ownsRow w'.heap.size 3 1 v (jD o i).length (jR (jD o i))∧dG w' gL):=Ih fun w' dJ=>by have h:=Qb code i (some ⟨c,co,none⟩) nc kc w' (EN.below dJ) qK qT zL dH Om;rw[←Ds]at h;exact h);have HLR:Hid (∀k∈jD o i,0≤k∧k<nc):=Ih (by rw[←qK.out];exact Bp i o Nr);have Qk:=@run_makeMap U;clear fK M3 Ds Nr qN gZ jT dH;go_wp2_with fail;clear Qk;have xM:dG wr ((wr.alloc (cY #[cS dA o.op,cT pd nd kd,cT ov.ps ov.ns ov.ks,cS dA o.n,cU o.name,cS dA o.ty.kind,cU o.ty.name,cT ov.tv.pn ov.tv.nn ov.tv.kn,cT ov.tv.pp ov.tv.np ov.tv.kp,cV o.ty.many] 71)).alloc (.map #[] 0)):=((aC _ _).alloc (aA _) _).alloc Si _;obtain⟨w8,wI⟩:=Ex ((wr.alloc (cY #[cS dA o.op,cT pd nd kd,cT ov.ps ov.ns ov.ks,cS dA o.n,cU o.name,cS dA o.ty.kind,cU o.ty.name,cT ov.tv.pn ov.tv.nn ov.tv.kn,cT ov.tv.pp ov.tv.np ov.tv.kp,cV o.ty.many] 71)).alloc (.map #[] 0));obtain⟨b9,tP⟩:=Ex wr.heap.size;have HOB8:Hid (w8.heap[b9]? =some (cY #[cS dA o.op,cT pd nd kd,cT ov.ps ov.ns ov.ks,cS dA o.n,cU o.name,cS dA o.ty.kind,cU o.ty.name,cT ov.tv.pn ov.tv.nn ov.tv.kn,cT ov.tv.pp ov.tv.np ov.tv.kp,cV o.ty.many] 71 (0,0))):=Ih (by rw[wI,tP];exact(aR _ _ _ Si).trans (aH wr _))
        have ZR:Hid (fR w8 (b9+1) n []):=Ih (by
         have:=Es (wr.alloc (cY #[cS dA o.op,cT pd nd kd,cT ov.ps ov.ns ov.ks,cS dA o.n,cU o.name,cS dA o.ty.kind,cU o.ty.name,cT ov.tv.pn ov.tv.nn ov.tv.kn,cT ov.tv.pp ov.tv.np ov.tv.kp,cV o.ty.many] 71))
         rw[wI,tP]
         have h2:=sW (regs:=n) this (fun x hx=>by cases hx)
         simpa using h2)
        rw[←wI]at xM;have In:=Ih (HX.old xM)
        have Qj:b9+1∉bs∧b9+1∉wN:=⟨fun hm=>by
         obtain⟨j,hj,e⟩:=aQ hm
         have:=(dS (HX.gr.sets.sets j hj).2).1
         omega,fun hm=>by
         obtain⟨j,hj,e⟩:=aQ hm
         have:=(dS (HX.sets.sets j hj).2).1
         omega⟩
        (have hb9l:w.heap.size≤b9:=by rw[tP];exact HX.bel.size);rw[←wI,←tP];clear wI tP xM y0 y1 y2 y3 y4 y5 y6 y7 y8 y9 z0 z1 z2 z3 z4 z5 z6 z7 z8 zz hU hbl1 Nx HX;refine(RH w8 In.bel).mono ?_;rintro y w9 ⟨lv,rfl,tO,LD⟩;obtain⟨ls,zJ⟩:=Ex (jD o i);rw[←zJ]at tO HLR;obtain⟨lp,lk,rfl,UV,UU⟩:=dI tO;have Ot:=Ih (mB tO In.bel.size);have Rl:=Ih (In.old LD);have HOB9:=Ih (Kb LD HOB8);have HBH9:=Ih (gT ZR (LD.block _ (dS ZR).1));obtain⟨nl,sX⟩:=Ex ls.length;rw[←sX]at Ot UV⊢;have zP:=Ih sX;have hlk3:(nl:Int)≤lk:=Om;unfold maxLen at UU;clear tO LD zJ sX In HOB8 ZR RH;go_wp2_with fail;go_loopg[80] nl (fun gk v80 wx=>∃(j:Nat) (lb:List Int),j≤nl∧gk=nl-j∧v80=cS dA j∧Bld w wx bg n nc #[cU bn,cV b.static,cS dA b.ty.kind,cU b.ty.name,cT bt.pn bt.nn bt.kn,cT bt.pp bt.np bt.kp,cV b.ty.many,cS dA (n:Nat),cT (some ⟨c,co,none⟩) nc kc] (cT pa n ka) (cT pl n kl) (cT (some ⟨g5,0,none⟩) nc k5) bs wN L5 L∧fR wx (b9+1) n lb∧(∀x∈lb,Cb n x)∧wx.heap[b9]? =some (cY #[cS dA o.op,cT pd nd kd,cT ov.ps ov.ns ov.ks,cS dA o.n,cU o.name,cS dA o.ty.kind,cU o.ty.name,cT ov.tv.pn ov.tv.nn ov.tv.kn,cT ov.tv.pp ov.tv.np ov.tv.kp,cV o.ty.many] 71 (0,0))∧wx.ownsRow w.heap.size 3 1 (cT lp nl lk) nl (jR ls));(case atStart=>exact⟨0,[],aJ _,rfl,rfl,Rl,HBH9,fun x h=>(by cases h),HOB9,Ot⟩)
        case round=>
         obtain⟨j,lb,hj,hgk,rfl,oG,Qs,Qh,Bu,tO⟩:=hrel;have nX:=Ih hgk;have HX:=Ih oG;have Ux:=Ih Qs;have Mi:=Ih Qh;have zO:=Ih Bu;have Ot:=Ih tO;clear hgk oG Qs Qh Bu tO;by_cases dH:j<nl;(·(have lA:j<ls.length:=by rw[←zP.out];exact dH);obtain⟨gl,cl,M8,-,-,-,KK,gQ⟩:=eN Ot Om;injection M8 with M8 _ VP;subst M8 VP;obtain⟨k0,Hl⟩:∃k0:Nat,ls[j]=(k0:Int):=⟨ls[j].toNat,by have:=HLR ls[j] (aE lA);omega⟩;(have KE:k0<nc:=by have:=HLR ls[j] (aE lA);omega);have VU:=gQ j (.int .i64 (k0:Nat)) (by unfold jR;rw[bH,aB lA,Option.map_some,Hl]);(have hk5:k0<wN.length:=by rw[HX.out.sets.bl];exact KE);have qT:=HX.sets.row.cellAt k0 Om;rw[bH,aB hk5,Option.map_some]at qT;unfold Cu at qT;have KF:=(HX.sets.sets k0 hk5).2;obtain⟨bk,xF⟩:=Ex (wN[k0]);have HBKM:Hid (bk∈wN):=Ih (by rw[xF];exact aE hk5);rw[←xF]at qT KF;obtain⟨lk0,UW⟩:=Ex (L5.getD k0 []);rw[←UW]at KF;have HRK:Hid (∀r∈lk0,Cb n r):=Ih (by rw[UW];exact DS k0);have HIK:=Ih KF;have hgl5:=(HX.sets.row.lt g5 rfl).2;have Qn:(j:Int)<nl:=Om;have hk0i:(k0:Int)<nc:=Om;clear gQ Hl xF UW KF dH hk5;go_wp2_with (at_range;refine Ej HIK _ Rf Rf Rf ?_;intro Vu cnt mD hg10 hs10);have Db:dG wr Vu:=⟨hg10.os,hg10.tape,hg10.output,hg10.size,fun k hk=>hg10.block k hk Si⟩;have HR10:=Ih mD;have DO:=Ih (HX.old Db);have HBH10:=Ih (gT Ux (Db.block _ (dS Ux).1));have HOB10:=Ih (Kb Db zO);have HLV10:=Ih (dR Ot fun g cs e=>Db.block g (dB e));obtain⟨r2,iS⟩:=Ex wr.heap.size;(have AE:w.heap.size≤r2:=by rw[iS];exact HX.bel.size);rw[←iS]at HR10;rw[←iS];clear mD hg10 hs10 Db iS HIK qT VU;go_loopg[] cnt (fun gk wx=>∃(done lb:List Int),RgAt wx bk r2 lk0.length lk0 done gk∧Bld w wx bg n nc #[.string bn,.bool b.static,.int .i64 b.ty.kind,.string b.ty.name,.slice bt.pn bt.nn bt.kn,.slice bt.pp bt.np bt.kp,.bool b.ty.many,.int .i64 (n:Nat),.slice (some ⟨c,co,none⟩) nc kc] (.slice pa n ka) (.slice pl n kl) (.slice (some ⟨g5,0,none⟩) nc k5) bs wN L5 L∧fR wx (b9+1) n lb∧(∀x∈lb,Cb n x)∧wx.heap[b9]? =some (.cells #[.int .i64 o.op,.slice pd nd kd,.slice ov.ps ov.ns ov.ks,.int .i64 o.n,.string o.name,.int .i64 o.ty.kind,.string o.ty.name,.slice ov.tv.pn ov.tv.nn ov.tv.kn,.slice ov.tv.pp ov.tv.np ov.tv.kp,.bool o.ty.many] 71 (0,0))∧wx.ownsRow w.heap.size 3 1 (.slice (some ⟨gl,0,none⟩) nl lk) nl (jR ls));(case atStart=>exact⟨[],lb,HR10,DO,HBH10,Mi,HOB10,HLV10⟩);(case round=>obtain⟨done,lb,mD,oG,Qs,Qh,Bu,tO⟩:=hrel;have HR:=Ih mD;have HX:=Ih oG;have Ux:=Ih Qs;have Mi:=Ih Qh;have zO:=Ih Bu;have Ot:=Ih tO;clear mD oG Qs Qh Bu tO;go_wp2_with (at_next;refine Ps HR _ Rf Rf Rf ?_ ?_);(·intro eT;clear eT;go_wp2_with fail;go_roundg (nl-(j+1));(case measure=>have:=nX.out;omega);(case rel=>exact⟨j+1,lb,by omega,rfl,Gn,HX,Ux,Mi,zO,Ot⟩));(·intro x c6 Ry cnt11 hx Y6 OO PE zX AD hen11;have C7:=HRK x hx;have C8:lJ x:=⟨by have:=C7.1;omega,by have:=C7.2;omega⟩;have My:=HX.nomap HR;have hrb1:=HR.nomap Ux;have MU:Hid (Only [r2] wr Ry):=Ih (Only.grown zX (fun q e=>by injection e with e;simp[e]));(have lE:lG wr [r2]:=fun q hq cs t fz e=>by exact V221);have DN:=Ih (HX.other MU lE (fun q hq=>by rw[aK]at hq;subst hq;exact⟨AE,My.1,My.2⟩));have Zv:=Ih OO;have ER:=Ih (gT Ux (MU.block _ (dS Ux).1 (by simpa using hrb1.symm)));have Zy:=Ih (MU.obj' lE zO);have HLV11:=Ih (MU.row' lE Ot);have HXR:=Ih C7;have HX64:=Ih C8;have HLT11:=Ih PE;clear C7 C8 My hrb1 lE OO zX AD PE hx Y6;go_wp2_with (at_mapUpdate;refine wpList_mapUpdate_own (H:=Unit) _ rfl _ _ _ 144 rfl 3 4 (Maps.int_keyed bG) Tryz.underlying144 _ (b9+1) n _ rfl ER (by unfold maxLen;omega) _ _ (.int .i64 x) rfl rfl (Maps.keyOf_int_mk bG (Rx HX64)) (.lit (.bool true)) [] (plainElem_bool bQ true) ?_;intro Ci hown12 hgrow12);(have QR:Hid (∀y∈lb++[x],Cb n y):=Ih fun y hy=>by rcases List.mem_append.1 hy with hy|hy;(·exact Mi y hy);(·rw[aK]at hy;rw[hy];exact HXR));have HBH12:Hid (fR Ci (b9+1) n (lb++[x])):=Ih (sW (n:=n+1) (by unfold fR;rw[tY];exact hown12) QR);have sw:Hid (Only [b9+1] Ry Ci):=Ih (Only.grown hgrow12 (fun q e=>by injection e with e;simp[e]));(have vn:lG Ry [b9+1]:=fun q hq cs t fz e=>by rw[aK]at hq;subst hq;exact(dS ER).2 _ _ _ e);have hbkn:bk≠b9+1:=fun e=>Qj.2 (by rw[←e];exact HBKM);have hr2n:r2≠b9+1:=Zv.nomap ER;have Aa:=Ih (DN.other sw vn (fun q hq=>by rw[aK]at hq;subst hq;exact⟨by omega,Qj.1,Qj.2⟩));have Ol:=Ih (Zv.only sw (by simpa using hbkn) (by simpa using hr2n));have Zx:=Ih (sw.obj' vn Zy);have HLV12:=Ih (sw.row' vn HLV11);clear hown12 hgrow12 vn hbkn hr2n;go_frame;go_roundg cnt11;(case measure=>exact HLT11);(case rel=>exact⟨_,_,Ol,Aa,HBH12,QR,Zx,HLV12⟩))))
         ·obtain rfl:nl=j:=Om;clear dH nX;go_upto_region 27 with fail;go_cut[103]from 96 to 103 (fun v103 wx=>∃q:Bool,v103=cV q∧wx=wr);(case first=>obtain⟨y0,y1,y2,y3,y4,y5,y6,y7,y8,y9,yf⟩:=fJ zO;by_cases h7:o.op=7;(·have e7:decide (o.op=7)=true:=decide_eq_true h7;(have e7':(o.op==7)=true:=by rw[h7];rfl);go_wp2_with fail;go_meet;exact⟨_,rfl,rfl⟩);(·have e7:decide (o.op=7)=false:=decide_eq_false h7;(have e7':(o.op==7)=false:=by rw[beq_eq_false_iff_ne];exact h7);clear h7;go_wp2_with fail;go_meet;exact⟨_,rfl,rfl⟩))
          case rest=>
           obtain⟨q7,rfl,rfl⟩:=hcut;go_upto_if 103 with fail;go_cut[14]from 104 to 129 (fun v14 wx=>Bld w wx bg n nc #[cU bn,cV b.static,cS dA b.ty.kind,cU b.ty.name,cT bt.pn bt.nn bt.kn,cT bt.pp bt.np bt.kp,cV b.ty.many,cS dA (n:Nat),cT (some ⟨c,co,none⟩) nc kc] (cT pa n ka) (cT pl n kl) (cT (some ⟨g5,0,none⟩) nc k5) bs wN L5 L∧fR wx (b9+1) n lb∧wx.heap[b9]? =some (cY #[cS dA o.op,cT pd nd kd,cT ov.ps ov.ns ov.ks,cS dA o.n,cU o.name,cS dA o.ty.kind,cU o.ty.name,cT ov.tv.pn ov.tv.nn ov.tv.kn,cT ov.tv.pp ov.tv.np ov.tv.kp,cV o.ty.many] 71 (0,0)));(case first=>cases q7;(·go_wp2_with fail;go_meet;exact⟨HX,Ux,zO⟩);(·go_wp2_with (at_range;refine Ej Ux _ Rf Rf Rf ?_;intro Ry cnt mD zX AD);go_frame;have oa:dG wc Ry:=⟨zX.os,zX.tape,zX.output,zX.size,fun k hk=>zX.block k hk Si⟩;have Zv:=Ih mD;have DN:=Ih (HX.old oa);have Zy:=Ih (Kb oa zO);obtain⟨r2,iS⟩:=Ex wc.heap.size;(have AE:w.heap.size≤r2:=by rw[iS];exact HX.bel.size);rw[←iS]at Zv;rw[←iS];clear mD zX AD oa iS;go_loopg[] cnt (fun gk wx=>∃(done:List Int),RgAt wx (b9+1) r2 n lb done gk∧Bld w wx bg n nc #[cU bn,cV b.static,cS dA b.ty.kind,cU b.ty.name,cT bt.pn bt.nn bt.kn,cT bt.pp bt.np bt.kp,cV b.ty.many,cS dA (n:Nat),cT (some ⟨c,co,none⟩) nc kc] (cT pa n ka) (cT pl n kl) (cT (some ⟨g5,0,none⟩) nc k5) bs wN L5 L∧wx.heap[b9]? =some (cY #[cS dA o.op,cT pd nd kd,cT ov.ps ov.ns ov.ks,cS dA o.n,cU o.name,cS dA o.ty.kind,cU o.ty.name,cT ov.tv.pn ov.tv.nn ov.tv.kn,cT ov.tv.pp ov.tv.np ov.tv.kp,cV o.ty.many] 71 (0,0)));(case atStart=>exact⟨[],Zv,DN,Zy⟩);(case round=>obtain⟨done,mD,oG,Bu⟩:=hrel;have HR:=Ih mD;have HX:=Ih oG;have zO:=Ih Bu;clear mD oG Bu;go_wp2_with (at_next;refine Ps HR _ Rf Rf Rf ?_ ?_);(·intro eT;clear eT;go_wp2_with fail;go_meet;obtain⟨left,h1,_⟩:=HR;exact⟨HX,h1.owns,zO⟩);(·intro x c6 Ci QD hx Y6 ON PD hg12 TM hen12;have C7:=Mi x hx;have Zg7:=0;exact V404))))
           case rest=>
            obtain⟨oG,Qs,Bu⟩:=hcut;have HX:=Ih oG;have Ux:=Ih Qs;have zO:=Ih Bu;clear oG Qs Bu;obtain⟨y0,y1,y2,y3,y4,y5,y6,y7,y8,y9,yf⟩:=fJ zO;go_wp2_with fail;clear y0 y1 y2 y3 y4 y5 y6 y7 y8 y9 yf;go_loopg[133] nd (fun gk v133 wx=>∃(j:Nat) (L:List (List Int)),j≤nd∧gk=nd-j∧v133=cS dA j∧Bld w wx bg n nc #[cU bn,cV b.static,cS dA b.ty.kind,cU b.ty.name,cT bt.pn bt.nn bt.kn,cT bt.pp bt.np bt.kp,cV b.ty.many,cS dA (n:Nat),cT (some ⟨c,co,none⟩) nc kc] (cT pa n ka) (cT pl n kl) (cT (some ⟨g5,0,none⟩) nc k5) bs wN L5 L∧PairsTo code l0 i L∧(∀x∈o.d.take j,∀y∈o.d,x≠y→y∈L.getD x.toNat [])∧fR wx (b9+1) n lb∧wx.heap[b9]? =some (cY #[cS dA o.op,cT pd nd kd,cT ov.ps ov.ns ov.ks,cS dA o.n,cU o.name,cS dA o.ty.kind,cU o.ty.name,cT ov.tv.pn ov.tv.nn ov.tv.kn,cT ov.tv.pp ov.tv.np ov.tv.kp,cV o.ty.many] 71 (0,0)));(case atStart=>exact⟨0,L,aJ _,rfl,rfl,HX,dn,fun x h=>(by cases h),Ux,zO⟩)
            case round=>
             obtain⟨j,L,hj,hgk,rfl,oG,iD,qN,Qs,Bu⟩:=hrel;have nX:=Ih hgk;have HX:=Ih oG;have dn:=Ih iD;have QT:=Ih qN;have Ux:=Ih Qs;have zO:=Ih Bu;clear hgk oG iD qN Qs Bu;by_cases dH:j<nd
             ·(have lA:j<o.d.length:=by rw[Rr.out];exact dH);rcases ZI with h0|⟨cd,cod,qN,KY,KZ⟩;(·omega);subst qN;(have hdj:o.d.getD j 0=o.d[j]:=by rw[aN,aB lA];rfl);have Cx:o.d[j]∈o.d:=aE lA;have P4:Hid (∀r∈o.d,Cb n r):=Ih (HDD i o HOO);obtain⟨da,hda⟩:∃da:Nat,o.d[j]=(da:Int):=⟨o.d[j].toNat,by have:=(P4 _ Cx).1;omega⟩;(have KT:da<n:=by have:=(P4 _ Cx).2;omega);(have de:∀u:World,dG w u→∀q:Nat,q<o.d.length→∃qa:Nat,qa<n∧o.d[q]? =some (qa:Int)∧u.cell? ⟨cd,cod+q,none⟩=some (cS dA (qa:Nat)):=fun u hu q hq=>by have h1:=P4 _ (aE hq);(have e:o.d[q]=((o.d[q].toNat:Nat):Int):=by have:=h1.1;omega);refine⟨o.d[q].toNat,by have:=h1.2;omega,by rw[aB hq,←e],?_⟩;rw[(hu.cell (p:=⟨cd,cod+q,none⟩) KY).trans (KZ q hq),aN,aB hq,←e];rfl);have Iv:=Ih de;have wP:Hid (o.d.take (j+1)=o.d.take j++[(da:Int)]):=Ih (by rw[List.take_add_one,aB lA,hda];rfl);(have VF:wr.cell? ⟨cd,cod+j,none⟩=some (cS dA (da:Nat)):=by rw[(HX.out.bel.cell (p:=⟨cd,cod+j,none⟩) KY).trans (KZ j lA),hdj,hda]);have Qn:(j:Int)<nd:=Om;have hcdw:cd<wr.heap.size:=aF KY HX.bel.size;clear de KZ hdj Cx hda lA dH;go_wp2_with (at_range;refine Ej Ux _ Rf Rf Rf ?_;intro Ry cnt mD zX AD);have oa:dG wr Ry:=⟨zX.os,zX.tape,zX.output,zX.size,fun k hk=>zX.block k hk Si⟩;have Zv:=Ih mD;have DN:=Ih (HX.old oa);have Zy:=Ih (Kb oa zO);obtain⟨r2,iS⟩:=Ex wr.heap.size;(have AE:w.heap.size≤r2:=by rw[iS];exact HX.bel.size);rw[←iS]at Zv;rw[←iS];clear mD zX AD oa iS VF hcdw;go_frame;go_loopg[] cnt (fun gk wx=>∃(done:List Int) (L:List (List Int)),RgAt wx (b9+1) r2 n lb done gk∧Bld w wx bg n nc #[cU bn,cV b.static,cS dA b.ty.kind,cU b.ty.name,cT bt.pn bt.nn bt.kn,cT bt.pp bt.np bt.kp,cV b.ty.many,cS dA (n:Nat),cT (some ⟨c,co,none⟩) nc kc] (cT pa n ka) (cT pl n kl) (cT (some ⟨g5,0,none⟩) nc k5) bs wN L5 L∧PairsTo code l0 i L∧(∀x∈o.d.take j,∀y∈o.d,x≠y→y∈L.getD x.toNat [])∧wx.heap[b9]? =some (cY #[cS dA o.op,cT (some ⟨cd,cod,none⟩) nd kd,cT ov.ps ov.ns ov.ks,cS dA o.n,cU o.name,cS dA o.ty.kind,cU o.ty.name,cT ov.tv.pn ov.tv.nn ov.tv.kn,cT ov.tv.pp ov.tv.np ov.tv.kp,cV o.ty.many] 71 (0,0)));(case atStart=>exact⟨[],L,Zv,DN,dn,QT,Zy⟩)
              case round=>
               obtain⟨done,L,mD,oG,iD,qN,Bu⟩:=hrel;have HR:=Ih mD;have HX:=Ih oG;have dn:=Ih iD;have QT:=Ih qN;have zO:=Ih Bu;clear mD oG iD qN Bu;go_wp2_with (at_next;refine Ps HR _ Rf Rf Rf ?_ ?_)
               ·intro eT;clear eT;(have Qs:fR wr (b9+1) n lb:=by obtain⟨left,h1,_⟩:=HR;exact h1.owns);have Ux:=Ih Qs;clear Qs;obtain⟨y0,y1,y2,y3,y4,y5,y6,y7,y8,y9,yf⟩:=fJ zO;go_wp2_with fail;clear y0 y1 y2 y3 y4 y5 y6 y7 y8 y9 yf;go_loopg[150] nd (fun gk v150 wx=>∃(q:Nat) (L:List (List Int)),q≤nd∧gk=nd-q∧v150=cS dA q∧Bld w wx bg n nc #[cU bn,cV b.static,cS dA b.ty.kind,cU b.ty.name,cT bt.pn bt.nn bt.kn,cT bt.pp bt.np bt.kp,cV b.ty.many,cS dA (n:Nat),cT (some ⟨c,co,none⟩) nc kc] (cT pa n ka) (cT pl n kl) (cT (some ⟨g5,0,none⟩) nc k5) bs wN L5 L∧PairsTo code l0 i L∧(∀x∈o.d.take j,∀y∈o.d,x≠y→y∈L.getD x.toNat [])∧(∀y∈o.d.take q,(da:Int)≠y→y∈L.getD da [])∧fR wx (b9+1) n lb∧wx.heap[b9]? =some (cY #[cS dA o.op,cT (some ⟨cd,cod,none⟩) nd kd,cT ov.ps ov.ns ov.ks,cS dA o.n,cU o.name,cS dA o.ty.kind,cU o.ty.name,cT ov.tv.pn ov.tv.nn ov.tv.kn,cT ov.tv.pp ov.tv.np ov.tv.kp,cV o.ty.many] 71 (0,0)));(case atStart=>exact⟨0,L,aJ _,rfl,rfl,HX,dn,QT,fun x h=>(by cases h),Ux,zO⟩)
                case round=>
                 obtain⟨q,L,hq,hgk,rfl,oG,iD,qN,hpq,Qs,Bu⟩:=hrel;have Ac:=Ih hgk;have HX:=Ih oG;have dn:=Ih iD;have QT:=Ih qN;have HPQ:=Ih hpq;have Ux:=Ih Qs;have zO:=Ih Bu;clear hgk oG iD qN hpq Qs Bu;by_cases dH:q<nd
                 ·obtain⟨qa,hqan,No,FF⟩:=Iv _ HX.bel q (by rw[Rr.out];exact dH);have Np:(q:Int)<nd:=Om;have hcdw:cd<wr.heap.size:=aF KY HX.bel.size;have HTQ:Hid (o.d.take (q+1)=o.d.take q++[(qa:Int)]):=Ih (by rw[List.take_add_one,No];rfl);have sh:=Ih (Ef w.heap.size bg n (cT pa n ka) (cT pl n kl) bs L da qa wr HX.gr KT hqan Om HX.bel.size);(have PW:da<L.length:=by rw[HX.out.gr.sets.ll];exact KT);(have PV:qa<L.length:=by rw[HX.out.gr.sets.ll];exact hqan);have nN:Hid (∀(i:Nat) (x:Int),x∈(tE L da qa).getD i []↔x∈L.getD i []∨(da≠qa∧((i=da∧x=qa)∨(i=qa∧x=da)))):=Ih fun i x=>Az PW PV;clear PW PV No dH;go_wp2_with fail;refine sh.mono ?_;rintro u w7 ⟨rfl,nI,-,tN⟩;have xO:=Ih (HX.split tN nI);have HBH7:=Ih (gT Ux (tN.block _ (dS Ux).1 Qj.1));have YJ:=Ih (tN.obj' HX.no zO);clear nI tN sh;go_wp2_with fail;go_roundg (nd-(q+1));(case measure=>have:=Ac.out;omega)
                  case rel=>exact⟨q+1,_,by omega,rfl,Gn,xO,dn.mono fun i x h=>(nN _ _).2 (.inl h),fun x hx y hy fM=>(nN _ _).2 (.inl (QT x hx y hy fM)),fun y hy fM=>by
                   rw[HTQ.out]at hy
                   rcases List.mem_append.1 hy with hy|hy
                   ·exact(nN _ _).2 (.inl (HPQ y hy fM))
                   ·rw[aK]at hy
                    subst hy
                    exact(nN _ _).2 (.inr ⟨fun e=>fM (by rw[e]),.inl ⟨rfl,rfl⟩⟩),HBH7,YJ⟩
                 ·obtain rfl:nd=q:=Om;clear dH;go_wp2_with fail;go_roundg (nd-(j+1));(case measure=>have:=nX.out;omega)
                  case rel=>exact⟨j+1,L,by omega,rfl,Gn,HX,dn,fun x hx y hy fM=>by
                   rw[wP.out]at hx
                   rcases List.mem_append.1 hx with hx|hx
                   ·exact QT x hx y hy fM
                   ·rw[aK]at hx
                    subst hx
                    rw[Int.toNat_natCast]
                    exact HPQ y (by rw[←Rr.out,List.take_length];exact hy) fM,Ux,zO⟩
               (·intro y c6 w6 H4 hy hyn Xs Xy PK hs6 hen6;have SV:=Mi y hy;obtain⟨ya,rfl⟩:∃ya:Nat,y=(ya:Int):=⟨y.toNat,by have:=SV.1;omega⟩;(have Y5:ya<n:=by have:=SV.2;omega);have My:=HX.nomap HR;have J8:Hid (Only [r2] wr w6):=Ih (Only.grown PK (fun q e=>by injection e with e;simp[e]));(have lE:lG wr [r2]:=fun q hq cs t fz e=>by exact V221);have qP:=Ih (HX.other J8 lE (fun q hq=>by rw[aK]at hq;subst hq;exact⟨AE,My.1,My.2⟩));have GB:=Ih Xs;have HOB6:=Ih (J8.obj' lE zO);have sh:=Ih (Ef w.heap.size bg n (cT pa n ka) (cT pl n kl) bs L da ya w6 qP.gr KT Y5 Om qP.bel.size);have K1:=Ih Xy;(have PW:da<L.length:=by rw[HX.out.gr.sets.ll];exact KT);(have PV:ya<L.length:=by rw[HX.out.gr.sets.ll];exact Y5);have nN:Hid (∀(i:Nat) (x:Int),x∈(tE L da ya).getD i []↔x∈L.getD i []∨(da≠ya∧((i=da∧x=ya)∨(i=ya∧x=da)))):=Ih fun i x=>Az PW PV;clear SV My lE Xs PK hs6 Xy hy hyn PW PV;go_wp2_with fail;refine sh.mono ?_;rintro u w7 ⟨rfl,nI,-,tN⟩;have xO:=Ih (qP.split tN nI);have Ns:=qP.nomap GB;have HR7:=Ih (GB.only tN Qj.1 Ns.1);have YJ:=Ih (tN.obj' qP.no HOB6);clear nI tN Ns sh;go_wp2_with fail;go_roundg H4;(case measure=>exact K1);(case rel=>exact⟨_,_,HR7,xO,dn.mono fun i x h=>(nN _ _).2 (.inl h),fun x hx y hy fM=>(nN _ _).2 (.inl (QT x hx y hy fM)),YJ⟩))
             (·obtain rfl:nd=j:=Om;clear dH;go_wp2_with fail;go_roundg (nc-(i+1));(case measure=>have:=HG.out;omega);(case rel=>exact⟨i+1,L,by omega,rfl,Gn,HX,dn.next HOO fun x hx=>QT x (by rw[←Rr.out,List.take_length];exact hx)⟩))
       (·obtain rfl:nc=i:=Om;go_wp2_with fail;go_ret;refine⟨bg,_,_,bs,L,rfl,HX.gr,fun x y hx hy fM=>dn.1 x ((HL0 x).2 hx) y ((HL0 y).2 hy) fM,fun i o ho x hx y hy fM=>dn.2 i o (by rw[←qK.out];exact(List.getElem?_eq_some_iff.1 ho).1) ho x hx y hy fM,HX.bel⟩)
     (·intro x c4 w4 cnt4 hx Y6 TO hlt4 zW D2 hen4;have C7:=HRL x hx;have Zg8:=0;exact V404)
theorem X7:laidOutB U=true:=by kernel_rfl
theorem SQ:WideMaps.KeyLaw U 149:=deep_law_laid X7 (m:=2) Om (of_decide_eq_true Kr) Kr (by rw[Tryz.underlying149])
theorem Kd:Maps.Keyed U 149:=Maps.Keyed.of_law SQ
def Hg (l:Lc):Lit:=.string (keyBytes [.bool l.1,.int .i64 (l.2:Nat)])
def zZ (l:Lc):Prop:=l.2≤1000000
theorem Er {l:Lc} (h:zZ l):keyOf U 149 (sF l)=some (Hg l):=by obtain⟨s,n⟩:=l;unfold zZ at h;have hw:(Lit.int .i64 (n:Nat)).wf=true:=Rx ⟨by omega,by simp only at h;omega⟩;(have h1:U.keyType 149=true:=by kernel_rfl);(have h2:U.cellsOf 149=2:=by kernel_rfl);(have h3:U.cellsOf 4=1:=by kernel_rfl);(have h4:U.cellsOf 3=1:=by kernel_rfl);(have hf:(sF (s,n)).formed U 149=true:=by simp[Value.formed,sF,Tryz.underlying149,h2]);(have hk:U.keyLits (U.types.size+1) 149 (sF (s,n)).cells.toList=some [.bool s,.int .i64 (n:Nat)]:=by obtain⟨m,hm⟩:∃m,U.types.size=m+1:=⟨U.types.size-1,by have:0<U.types.size:=of_decide_eq_true Kr;omega⟩;rw[hm];simp[Program.keyLits,sF,Value.cells,Tryz.underlying149,bQ,bG,h2,h3,h4,hw]);unfold keyOf;rw[Tryz.underlying149];simp only[h1,hf,Bool.and_self,if_true,hk,Option.map_some];rfl
theorem X4 {a b:Lc} (ha:zZ a) (hb:zZ b) (h:Hg a=Hg b):a=b:=by
 obtain⟨s,n⟩:=a;obtain⟨q,m⟩:=b;unfold zZ at ha hb;unfold Hg at h;injection h with h
 have:=keyBytes_inj (l:=[.bool s,.int .i64 (n:Nat)]) (l':=[.bool q,.int .i64 (m:Nat)]) ⟨trivial,rfl,trivial⟩ (fun a h=>by
  simp only[bF,aZ,or_false]at h
  rcases h with rfl|rfl
  ·trivial
  ·exact Rx ⟨by omega,by simp only at ha;omega⟩) (fun a h=>by
  simp only[bF,aZ,or_false]at h
  rcases h with rfl|rfl
  ·trivial
  ·exact Rx ⟨by omega,by simp only at hb;omega⟩) h
 injection this with h1 h2;injection h1 with h1;injection h2 with h2;injection h2 with _ h2;rw[h1,Int.ofNat.inj h2]
def B9 (l:List Lc):DataW Unit:=Maps.setOf (.lit (.bool true)) (l.map Hg)
theorem Px (l:List Lc) (k:Lc):B9 (l++[k])=(B9 l).put (Hg k) (.lit (.bool true)):=by unfold B9;rw[aS,bC,cM,Maps.setOf_snoc]
theorem JC (l:List Lc) (hl:∀x∈l,zZ x) {k:Lc} (hk:zZ k):(B9 l).atKey (Hg k) (.lit (.bool false))=.lit (.bool (l.contains k)):=by
 have h:∀(l:List Lc) (D:DataW Unit),(∀x∈l,zZ x)→Maps.IsMap D→((l.map Hg).foldl (fun m x=>m.put x (.lit (.bool true))) D).atKey (Hg k) (.lit (.bool false))=if l.contains k then .lit (.bool true)else D.atKey (Hg k) (.lit (.bool false)):=by
  intro l
  induction l with
  |nil=>intro D _ _;rfl
  |cons x l ih=>
   intro D hl hD
   rw[bC,cA,ih _ (fun y hy=>hl y (aP _ hy)) (hD.put _ _),List.contains_cons]
   by_cases hc:l.contains k=true
   ·rw[if_pos hc,if_pos (by rw[hc,Bool.or_true])]
   ·rw[if_neg hc]
    by_cases e:k=x
    ·subst e
     rw[Maps.atKey_put_same hD (by trivial),if_pos Si]
    ·rw[Maps.atKey_put_other (fun h=>e (X4 hk (hl x aU) h)),if_neg (by simp[e]at hc⊢;exact hc)]
 unfold B9 Maps.setOf;rw[h l _ hl Maps.isMap_empty];exact V396
def mM (w:World) (b n:Nat) (l:List Lc):Prop:=w.ownsMap U 149 (plainElem (H:=Unit) U 4) b n (B9 l)
theorem En {n:Nat} {l:List Lc} (h:mM w b n l) (hl:∀x∈l,zZ x) {k:Lc} (hk:zZ k):
 (Instr.lookup 143 (.map (some b)) (sF k) false).run U w=.ok (.bool (l.contains k)) w:=by obtain⟨v,ps,Kk,hv⟩:=World.ownsMap.lookup h Kd Tryz.underlying143 (z:=.bool false) Kr (plainElem_bool bQ false) (Er hk);rw[JC l hl hk]at hv;rw[Kk,nF bQ hv]
theorem Py (w:World):mM (w.alloc (.map #[] 0)) w.heap.size 0 []:=World.ownsMap_made w U 149 _
theorem jL {n:Nat} {l:List Lc} (h:mM w b n l):b<w.heap.size∧∀cs t fz,w.heap[b]?≠some (Obj.cells cs t fz):=by obtain⟨es,cl,h1,_⟩:=h;exact⟨dB h1,fun cs t fz e=>by rw[h1]at e;cases e⟩
theorem rG {n:Nat} {l:List Lc} (h:mM w b n l) (e:w'.heap[b]? =w.heap[b]?):mM w' b n l:=by obtain⟨es,cl,h1,h2⟩:=h;exact⟨es,cl,e.trans h1,h2⟩
theorem Pp {α:Type} [DecidableEq α]:∀(l' l:List α),l'.Nodup→(∀x∈l',x∈l)→l'.length≤l.length
 |[],_,_,_=>aJ _
 |a::l',l,hn,hs=>by
  rw[List.nodup_cons]at hn
  have h1:=hs a aU
  have:=Pp l' (l.erase a) hn.2 fun x hx=>(List.mem_erase_of_ne (fun e=>hn.1 (by rw[←e];exact hx))).2 (hs x (aP _ hx))
  rw[List.length_erase_of_mem h1]at this
  have:=List.length_pos_of_mem h1
  simp only[aM]
  omega
theorem Xa {s:Bool} {x:Nat} {u0 u1:Value} (hb:dG w wr) (hr:wr.heap[w.heap.size]? =some (cY #[u0,u1] 149 (0,0))) (o:Obj):
 (((wr.setCell ⟨w.heap.size,0,none⟩ (cV s)).setCell ⟨w.heap.size,1,none⟩ (cS dA (x:Nat))).alloc o).heap[w.heap.size]? =some (cY #[cV s,cS dA (x:Nat)] 149 (0,0))∧
 dG w (((wr.setCell ⟨w.heap.size,0,none⟩ (cV s)).setCell ⟨w.heap.size,1,none⟩ (cS dA (x:Nat))).alloc o):=by have h1:=eF hr 0 (cV s);have f1:=EFr.set (B:=w.heap.size) (chg:=[149]) hr (aA _) Si 0 (cV s);have h2:=eF h1 1 (cS dA (x:Nat));have f2:=EFr.set (B:=w.heap.size) (chg:=[149]) h1 (aA _) Si 1 (cS dA (x:Nat));have f3:=(f1.trans f2).trans (EFr.of ((aC _ _).alloc (aA _) o));refine⟨(aR _ _ _ (dB h2)).trans ?_,hb.trans (f3.below hb.size)⟩;rw[h2];rfl
def XL (ls:List Lc) (l:Lc):Prop:=l∉ls∧(l.1=false→l.2<12)∧(l.1=true→l.2≤ls.length)
theorem S8 (base bg n:Nat) (va vl:Value) (bs:List Nat) (L:List (List Int)) (r bt m:Nat) (ls:List Lc) (w:World) (h:GrAt w base bg n va vl bs L) (hr:r<n) (zJ:mM w bt m ls) (xD:∀x∈ls,zZ x) (hl:ls.length≤1000):
 O U 58 #[cW (some ⟨bg,0,none⟩),cS dA (r:Nat),.map (some bt)] w fun x w'=>∃l,x=cZ (sF l)∧XL ls l∧dG w w':=by
 obtain⟨lq,PF⟩:=h.long;obtain⟨gl,cl,rfl,sY,sM,-,KK,gQ⟩:=eN PF Om;(have AU:r<lq.length:=by have:=PF.1;rw[aI]at this;omega);obtain⟨q,hq⟩:∃q,lq[r]? =some q:=⟨_,aB AU⟩;have HCX:=Ih (gQ r (cV q) (by rw[bH,hq];rfl));have ZQ:=Ih h.box;have aq:=Ih zJ;have Fm:=Ih xD;have ld:(r:Int)<n:=Om;have zV:(n:Int)≤cl:=Om;have hU:=dB h.box;have Tx:dG w (w.alloc (cY #[cV false,cS dA 0] 149)):=(aC _ _).alloc (aA _) _;have mZ:(w.alloc (cY #[cV false,cS dA 0] 149)).heap[w.heap.size]? =some (cY #[cV false,cS dA 0] 149 (0,0)):=aH w _;obtain⟨W,hW⟩:=Ex (w.alloc (cY #[cV false,cS dA 0] 149));rw[←hW]at Tx mZ;have wU:=Ih Tx;have Zw:=Ih mZ;have QL:=Ih hW;unfold maxLen at sM;clear h zJ xD gQ PF AU hq Tx mZ hW;go_in;go_upto_region 2 with fail;rw[←QL.out];have z0:=qV (Kb wU ZQ);have zc:=(wU.cell (p:=⟨gl,r,none⟩) KK).trans HCX;go_upto_if 18 with fail;go_cut[7]from 19 to 19 (fun v7 wx=>∃f:Nat,f≤4∧v7=cS dA f∧wx=W);(case first=>cases q;(·go_wp2_with fail;go_meet;exact⟨0,by omega,rfl,rfl⟩);(·go_wp2_with fail;go_meet;exact⟨4,by omega,rfl,rfl⟩))
 case rest=>
  obtain⟨f,hf,rfl,rfl⟩:=hcut;clear z0 zc QL;(have Qe:IntKind.i64.wrap (12-(f:Int))=((12-f:Nat):Int):=by rw[aX _ Om];omega);have Ew:(12:Int)-(f:Int)=((12-f:Nat):Int):=Om;obtain⟨e,he⟩:=Ex (12-f);rw[←he]at Qe Ew;go_wp2_with fail;go_loopg[21] e (fun gk v21 wx=>∃i:Nat,i≤e∧gk=e-i∧v21=cS dA i∧dG w wx∧wx.heap[w.heap.size]? =some (cY #[cV false,cS dA 0] 149 (0,0)));(case atStart=>exact⟨0,aJ _,rfl,rfl,wU,Zw⟩)
  case round=>
   obtain⟨i,hi,hgk,rfl,dJ,D4⟩:=hrel;have HG:=Ih hgk;have HB:=Ih dJ;have HR:=Ih D4;clear hgk dJ D4;by_cases dH:i<e;(·have hie:(i:Int)<e:=Om;obtain⟨x,hx⟩:=Ex (f+i);(have hwa:IntKind.i64.wrap ((f:Int)+(i:Int))=(x:Int):=by rw[aX _ Om];omega);have Qc:x<12:=Om;have cu:w.heap.size<wr.heap.size:=dB HR;have AT:mM (wr.alloc (cY #[cV false,cS dA (x:Nat)] 149)) bt m ls:=rG aq ((aR _ _ _ (aF (jL aq).1 HB.size)).trans (HB.block _ (jL aq).1));have gJ:=En AT Fm (k:=(false,x)) (show x≤1000000 by omega);obtain⟨q,hq⟩:=Ex (ls.contains (false,x));rw[←hq]at gJ;unfold sF at gJ;simp only at gJ;have HQ:=Ih hq;have z0:=qV ((aR wr (cY #[cV false,cS dA (x:Nat)] 149) _ cu).trans HR);have r0:=qV HR;clear dH AT hx hq;cases q;(·go_wp2_with fail;obtain⟨hre,kS⟩:=Xa (s:=false) (x:=x) HB HR (cY #[cV false,cS dA (x:Nat)] 149);obtain⟨y0,y1,yf⟩:=qV hre;have AY:(wr.heap.size:Nat)=wr.heap.size:=rfl;refine bodyPost_ret (v:=cX #[cV false,cS dA (x:Nat)]) (by simp[results,Tryz.results58,go_sem,y0,y1,bO]) rfl ⟨(false,x),rfl,⟨fun hm=>(by have:=HQ;rw[List.contains_iff_mem.2 hm]at this;cases this),fun _=>Qc,fun h=>(by cases h)⟩,kS⟩);(·go_wp2_with fail;go_roundg (e-(i+1));(case measure=>have:=HG.out;omega);(case rel=>exact⟨i+1,by omega,rfl,Gn,HB.alloc HB.size _,(aR wr _ _ cu).trans HR⟩)))
   ·obtain rfl:e=i:=Om;clear dH;go_wp2_with fail;go_loopg[10] ls.length (fun gk v10 wx=>∃i:Nat,i≤ls.length∧gk=ls.length-i∧v10=cS dA i∧(∀k,k<i→(true,k)∈ls)∧dG w wx∧wx.heap[w.heap.size]? =some (cY #[cV false,cS dA 0] 149 (0,0)));(case atStart=>exact⟨0,aJ _,rfl,rfl,fun k h=>absurd h (Nat.not_lt_zero _),HB,HR⟩)
    case round=>
     clear HB HR HG;obtain⟨x,hi,hgk,rfl,eT,dJ,D4⟩:=hrel;have HG:=Ih hgk;have HB:=Ih dJ;have HR:=Ih D4;have fP:=Ih eT;clear hgk dJ D4 eT;have cu:w.heap.size<wr.heap.size:=dB HR;have AT:mM (wr.alloc (cY #[cV true,cS dA (x:Nat)] 149)) bt m ls:=rG aq ((aR _ _ _ (aF (jL aq).1 HB.size)).trans (HB.block _ (jL aq).1));have gJ:=En AT Fm (k:=(true,x)) (show x≤1000000 by omega);obtain⟨q,hq⟩:=Ex (ls.contains (true,x));rw[←hq]at gJ;unfold sF at gJ;simp only at gJ;have HQ:=Ih hq;have z0:=qV ((aR wr (cY #[cV true,cS dA (x:Nat)] 149) _ cu).trans HR);have r0:=qV HR;clear AT hq;cases q;(·go_wp2_with fail;obtain⟨hre,kS⟩:=Xa (s:=true) (x:=x) HB HR (cY #[cV true,cS dA (x:Nat)] 149);obtain⟨y0,y1,yf⟩:=qV hre;have AY:(wr.heap.size:Nat)=wr.heap.size:=rfl;refine bodyPost_ret (v:=cX #[cV true,cS dA (x:Nat)]) (by simp[results,Tryz.results58,go_sem,y0,y1,bO]) rfl ⟨(true,x),rfl,⟨fun hm=>(by have:=HQ;rw[List.contains_iff_mem.2 hm]at this;cases this),fun h=>(by cases h),fun _=>hi⟩,kS⟩)
     ·have Qc:x<ls.length:=by
       have hm:(true,x)∈ls:=List.contains_iff_mem.1 HQ.symm
       have:=Pp ((List.range (x+1)).map fun k=>(true,k)) ls (List.pairwise_map.2 (List.nodup_range.imp fun h e=>h (by injection e))) (fun y hy=>by
        obtain⟨k,hk,rfl⟩:=List.mem_map.1 hy
        rw[List.mem_range]at hk
        by_cases e:k=x
        ·rw[e];exact hm
        ·exact fP k Om)
       rw[aI,List.length_range]at this;omega
      go_wp2_with fail;go_roundg (ls.length-(x+1));(case measure=>have:=HG.out;omega)
      case rel=>exact⟨x+1,by omega,rfl,Gn,fun k hk=>(by
       by_cases e:k=x
       ·rw[e];exact List.contains_iff_mem.1 HQ.symm
       ·exact fP k Om),HB.alloc HB.size _,(aR wr _ _ cu).trans HR⟩
end
end Go.Proofs.YtfbmaffacikgbaaGreat
