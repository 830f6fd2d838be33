/- A part of the proof of EmitSays. -/
import Derived.Test.YtfbmaffacikgbaaGreatA1
set_option maxRecDepth 100000
set_option maxHeartbeats 4000000
set_option linter.unusedVariables false
set_option linter.unusedSimpArgs false
open Go renaming Calls→O
open Go.Proofs.Tryz renaming prog→U
open Nat renaming le_refl→aA
open List renaming getElem?_eq_getElem→aB,getElem_mem→aE,length_map→aI,mem_singleton→aK,getD_eq_getElem?_getD→aN,getElem_of_mem→aQ,not_mem_nil→aZ,mem_cons→bF,getElem?_map→bH,all_eq_true→cJ,flatMap_cons→cL
open Go.RowKit.Below renaming refl→aC
open Bool renaming and_eq_true→aV
open Go.Value renaming int→bL,string→cE
open Go.Proofs.Tryz renaming results135→bR
open And renaming intro→bM
open Go.Result renaming andThen→cG
open Go.ByteArray renaming toList_eq→cK
open Go.Value renaming int→cS
open Go.Value renaming slice→cT
open Go.Value renaming string→cU
open Go.Value renaming bool→cV
open Go.Value renaming pointer→cW
open Go.Value renaming agg→cX
open Go.Obj renaming cells→cY
open Go.Ending renaming returned→cZ
open Go.IntKind renaming i64→dA
namespace Go.Proofs.YtfbmaffacikgbaaGreat
variable {w w' w1 wr w2 w0:World} {r k i size d k' co b:Nat} {v:Value} {e:TypeId} {l:List Int} {a:Act} {P:Program} {p:Option Addr} {L:List (List Int)} {cs:Array Value} {s:ByteArray} {x:Int}
section
open Go.RowKit
theorem IT (n f:ByteArray) (w:World):
 O U 143 #[cU n,cU f] w fun e w'=>e=cZ (.tuple #[cX #[cU n,cU f,cS dA (-32768),cS dA 32767],cV true])∧
  w.alloc (cY #[cU n,cU f,cS dA (-32768),cS dA 32767] 224)=w':=by go_in;go_wp2;exact bodyPost_ret (v:=.tuple #[cX #[cU n,cU f,cS dA (-32768),cS dA 32767],cV true]) (by simp[results,Tryz.results143,go_sem]) rfl ⟨rfl,rfl⟩
theorem IS (n f:ByteArray) (w:World):
 O U 144 #[cU n,cU f] w fun e w'=>e=cZ (.tuple #[cX #[cU n,cU f,cS dA 0,cS dA 65535],cV true])∧
  w.alloc (cY #[cU n,cU f,cS dA 0,cS dA 65535] 224)=w':=by go_in;go_wp2;exact bodyPost_ret (v:=.tuple #[cX #[cU n,cU f,cS dA 0,cS dA 65535],cV true]) (by simp[results,Tryz.results144,go_sem]) rfl ⟨rfl,rfl⟩
theorem of_1 (w:World):
 O U 135 #[cS dA 1] w (RB w (.tuple #[Cp.formV 1,cV true])):=by have Z1h:=0;exact V13
theorem of_2 (w:World):
 O U 135 #[cS dA 2] w (RB w (.tuple #[Cp.formV 2,cV true])):=by have Z1i:=0;exact V13
theorem of_3 (w:World):
 O U 135 #[cS dA 3] w (RB w (.tuple #[Cp.formV 3,cV true])):=by have Z1j:=0;exact V13
theorem of_4 (w:World):
 O U 135 #[cS dA 4] w (RB w (.tuple #[Cp.formV 4,cV true])):=by have Z1k:=0;exact V13
theorem of_5 (w:World):
 O U 135 #[cS dA 5] w (RB w (.tuple #[Cp.formV 5,cV true])):=by have Z1l:=0;exact V13
theorem of_6 (w:World):
 O U 135 #[cS dA 6] w (RB w (.tuple #[Cp.formV 6,cV true])):=by have Z1m:=0;exact V13
theorem of_7 (w:World):
 O U 135 #[cS dA 7] w (RB w (.tuple #[Cp.formV 7,cV true])):=by have Z1n:=0;exact V13
theorem of_8 (w:World):
 O U 135 #[cS dA 8] w (RB w (.tuple #[Cp.formV 8,cV true])):=by have Z1o:=0;exact V13
theorem of_9 (w:World):
 O U 135 #[cS dA 9] w (RB w (.tuple #[Cp.formV 9,cV true])):=by have Z1p:=0;exact V13
theorem of_10 (w:World):
 O U 135 #[cS dA 10] w (RB w (.tuple #[Cp.formV 10,cV true])):=by have Z1q:=0;exact V13
theorem of_11 (w:World):
 O U 135 #[cS dA 11] w (RB w (.tuple #[Cp.formV 11,cV true])):=by have Z1r:=0;exact V13
theorem of_12 (w:World):
 O U 135 #[cS dA 12] w (RB w (.tuple #[Cp.formV 12,cV true])):=by have Z1s:=0;exact V13
theorem of_13 (w:World):
 O U 135 #[cS dA 13] w (RB w (.tuple #[Cp.formV 13,cV true])):=by have Z1t:=0;exact V13
theorem of_14 (w:World):
 O U 135 #[cS dA 14] w (RB w (.tuple #[Cp.formV 14,cV true])):=by have Z1u:=0;exact V13
theorem of_15 (w:World):
 O U 135 #[cS dA 15] w (RB w (.tuple #[Cp.formV 15,cV true])):=by have Z1v:=0;exact V13
theorem of_16 (w:World):
 O U 135 #[cS dA 16] w (RB w (.tuple #[Cp.formV 16,cV true])):=by have Z1w:=0;exact V13
theorem of_17 (w:World):
 O U 135 #[cS dA 17] w (RB w (.tuple #[Cp.formV 17,cV true])):=by have Z1x:=0;exact V13
theorem of_18 (w:World):
 O U 135 #[cS dA 18] w (RB w (.tuple #[Cp.formV 18,cV true])):=by have Z1y:=0;exact V13
theorem of_19 (w:World):
 O U 135 #[cS dA 19] w (RB w (.tuple #[Cp.formV 19,cV true])):=by have Z1z:=0;exact V13
theorem of_20 (w:World):
 O U 135 #[cS dA 20] w (RB w (.tuple #[Cp.formV 20,cV true])):=by have Z1A:=0;exact V13
theorem of_21 (w:World):
 O U 135 #[cS dA 21] w (RB w (.tuple #[Cp.formV 21,cV true])):=by have Z1B:=0;exact V13
theorem of_22 (w:World):
 O U 135 #[cS dA 22] w (RB w (.tuple #[Cp.formV 22,cV true])):=by have Z1C:=0;exact V13
theorem of_23 (w:World):
 O U 135 #[cS dA 23] w (RB w (.tuple #[Cp.formV 23,cV true])):=by have Z1D:=0;exact V13
theorem of_24 (w:World):
 O U 135 #[cS dA 24] w (RB w (.tuple #[Cp.formV 24,cV true])):=by have Z1E:=0;exact V13
theorem of_25 (w:World):
 O U 135 #[cS dA 25] w (RB w (.tuple #[Cp.formV 25,cV true])):=by have Z1F:=0;exact V13
theorem SM (op:Int) (w:World) (h1:-9223372036854775808≤op) (h2:op≤9223372036854775807) (h:op≤0∨26≤op):
 O U 135 #[cS dA op] w (RB w (.tuple #[Cp.formV op,cV false])):=by(have hf:Cp.formV op=cX #[cU ⟨#[]⟩,cU ⟨#[]⟩,cS dA 0,cS dA 0]:=by unfold Cp.formV;rw[Cp.find_none op h]);have HF:=Ih hf;clear hf;rcases h with h|h;(all_goals go_in;go_wp2;refine bodyPost_ret (v:=.tuple #[cX #[cU ⟨#[]⟩,cU ⟨#[]⟩,cS dA 0,cS dA 0],cV false]) (by simp[results,bR,go_sem]) rfl ⟨by rw[HF.out],?_⟩;exact V64)
theorem T9 (op:Int) (w:World) (h1:-9223372036854775808≤op) (h2:op≤9223372036854775807):
 O U 135 #[cS dA op] w (RB w (.tuple #[Cp.formV op,cV (Cp.find op).isSome])):=by rcases Cp.op_cases op with h|h|h|h|h|h|h|h|h|h|h|h|h|h|h|h|h|h|h|h|h|h|h|h|h|h;(case inr.inr.inr.inr.inr.inr.inr.inr.inr.inr.inr.inr.inr.inr.inr.inr.inr.inr.inr.inr.inr.inr.inr.inr.inr=>(have e:(Cp.find op).isSome=false:=by rw[Cp.find_none op h];rfl);rw[e];exact SM op w h1 h2 h);(all_goals subst h);(·exact of_1 w);(·exact of_2 w);(·exact of_3 w);(·exact of_4 w);(·exact of_5 w);(·exact of_6 w);(·exact of_7 w);(·exact of_8 w);(·exact of_9 w);(·exact of_10 w);(·exact of_11 w);(·exact of_12 w);(·exact of_13 w);(·exact of_14 w);(·exact of_15 w);(·exact of_16 w);(·exact of_17 w);(·exact of_18 w);(·exact of_19 w);(·exact of_20 w);(·exact of_21 w);(·exact of_22 w);(·exact of_23 w);(·exact of_24 w);(·exact of_25 w)
end
section
open Go.RowKit Ob
theorem ef (p p':Option Addr) (n k k':Nat) (l:List Int) (w:World) (hl:l.length=n) (hn:n≤9223372036854775807) (h:SliceAt w .i32 p l) (h':SliceAt w .i32 p' l):
 O U 12 #[cT p n k,cT p' n k'] w (RB w (cV true)):=by have HL:=Ih hl;have HS:=Ih (bM h h');clear h h' hl;go_in;go_wp2_with fail;go_loopg[5] n (fun gk i wr=>∃j:Nat,j≤n∧gk=n-j∧i=cS dA j∧dG w wr);(case atStart=>exact⟨0,by omega,rfl,rfl,aC _ _⟩);(case round=>obtain⟨j,hj,hgk,rfl,hb⟩:=hrel;have HG:=Ih hgk;have HB:=Ih hb;clear hgk hb;by_cases dH:j<n;(·(obtain⟨x,c,co,c',FQ,rfl,rfl,k0,k1⟩:∃x c co c' FQ,p=some ⟨c,co,none⟩∧p'=some ⟨c',FQ,none⟩∧wr.cell? ⟨c,co+j,none⟩=some (cS .i32 x)∧wr.cell? ⟨c',FQ+j,none⟩=some (cS .i32 x):=by(have lA:j<l.length:=by rw[HL.out];exact dH);rcases HS.1 with h0|⟨c,co,rfl,hc,hr⟩;(·omega);rcases HS.2 with h0|⟨c',FQ,rfl,hc',TQ⟩;(·omega);exact⟨l.getD j 0,c,co,c',FQ,rfl,rfl,(HB.cell (p:=⟨c,co+j,none⟩) hc).trans (hr j lA),(HB.cell (p:=⟨c',FQ+j,none⟩) hc').trans (TQ j lA)⟩);have Qn:(j:Int)<n:=Om;go_upto_region 6 with fail;go_quiet (fail);go_wp2_with fail;go_roundg (n-(j+1));(case measure=>have:=HG.out;omega);(case rel=>exact⟨j+1,by omega,rfl,Gn,⟨HB.os,HB.tape,HB.output,HB.size,HB.block⟩⟩));(·obtain rfl:j=n:=Om;go_wp2_with fail;go_ret;exact⟨rfl,HB⟩))
theorem rQ {o:Oper} {K:Act→Prop} (w:World) (ty:TypeId) (x:Operand) (ho:o.op=.load ty x) (b vK:Nat) (hx:a.eval x=cW (some ⟨b,vK,none⟩)) (cs:List Value) (d:TypeDesc) (hc:w.rangeAt b vK cs)
 (hu:P.underlying ty=some d) (hd:d.isRow=true) (hi:(P.info? ty).map (·.size)=some cs.length) (hk:K (a.put o.dst (.agg cs.toArray))):o.quiet P a (fun w'=>∃n,w'=w.drewN n) K:=by refine⟨.agg cs.toArray,?_,hk⟩;rintro w' ⟨n,rfl⟩;unfold Oper.quietAt execOp;simp only[ho,hx,Instr.loadAt,Instr.sureAddr,Sem.run_bind,Sem.run_pure,Result.andThen_ok,run_loadVar_mid (w.drewN n) b vK ty cs d hc hu hd hi];exact⟨rfl,rfl⟩
theorem Eh {n c:Nat} {k:IntKind} (h:w.ownsRow b e 1 (cT p n c) n (l.flatMap fun x=>[bL k x])):SliceAt w k p l:=by
 have VM:∀L:List Int,(L.flatMap fun x=>[bL k x])=L.map (bL k):=by
  intro L
  induction L with
  |nil=>rfl
  |cons a L ih=>rw[cL,ih];rfl
 rw[VM]at h;have hl:=h.1;rw[aI,Nat.mul_one]at hl;have dH:=h.lt;have hc:=fun g=>h.cells (g:=g);rcases h.2 with⟨e,h0⟩|⟨g,gN,mU,e,_⟩;(·exact .inl Om);(·injection e with e1 e2 e3;subst e1;refine .inr ⟨g,0,rfl,(dH g rfl).2,fun j hj=>?_⟩;have:=hc g rfl j (bL k l[j]) (by simp[hj]);rw[Fj]at this;rw[Nat.zero_add,this,aN,aB hj];rfl)
def reservedB:List ByteArray:=[{data:=#[98,114,101,97,107]},{data:=#[99,111,117,110,116]},{data:=#[101,108,115,101]},{data:=#[101,120,116,101,114,110]},{data:=#[101,120,116,114,97]},{data:=#[102,110]},{data:=#[105,102]},{data:=#[105,110,116]},{data:=#[108,111,110,103]},{data:=#[112,117,116]},{data:=#[114,101,116,117,114,110]},{data:=#[115,116,97,116,105,99]},{data:=#[115,116,114,117,99,116]},{data:=#[119,104,105,108,101]}]
theorem Sk:reservedB.map (·.data.toList)=reserved:=by kernel_rfl
theorem Sl (j:Nat) (h:j<reservedB.length):(reservedB.map cE).toArray[j]? =some (cU reservedB[j]):=by rw[List.getElem?_toArray,bH,aB h];rfl
theorem Sj (w:World):O U 43 #[] w fun e w'=>e=cZ (cT (some ⟨w.heap.size,0,none⟩) 14 14)∧w.alloc (cY (reservedB.map cE).toArray 9)=w':=by exact V123
theorem pC (s:ByteArray) (w:World) (hs:s.size≤9223372036854775807):
 O U 19 #[cU s] w (RB w (cV (kI s.data.toList))):=by
 have HRS:Hid (∀w':World,O U 37 #[cT (some ⟨w'.heap.size,0,none⟩) 14 14,cU s] (w'.alloc (cY (reservedB.map cE).toArray 9)) fun e gL=>e=cZ (cV (reserved.contains s.data.toList))∧w'.alloc (cY (reservedB.map cE).toArray 9)=gL):=by
  intro w'
  have h:=I7 s w'.heap.size 14 14 reservedB (w'.alloc (cY (reservedB.map cE).toArray 9)) rfl Om (fun j h=>by
   rw[cell_of_row _ _ _ _ _ _ (heap_alloc_new w' _),Sl j h])
  rw[Sk]at h;exact h
 obtain⟨t,ht⟩:∃t,kI s.data.toList=t:=⟨_,rfl⟩;rw[ht];have HT:=Ih ht;have OJ:=nO s;have At:=Ih OJ;clear ht OJ;by_cases h1:s.size<1;(·(obtain rfl:t=false:=by rw[←HT.out];exact tV (.inl (by rw[At.out];exact h1)));go_in;go_wp2_with fail;go_ret;exact⟨rfl,aC _ _⟩);by_cases h2:16<s.size;(·(obtain rfl:t=false:=by rw[←HT.out];exact tV (.inr (by rw[At.out];exact h2)));go_in;go_wp2_with fail;go_ret;exact⟨rfl,aC _ _⟩);have d1:decide ((s.size:Int)<1)=false:=decide_eq_false Om;have d2:decide (16<(s.size:Int))=false:=decide_eq_false Om;go_in;go_wp2_with fail;go_loopg[3] s.size (fun gk i wr=>∃k:Nat,k≤s.size∧gk=s.size-k∧i=cS dA k∧w=wr∧∀j,j<k→nameAt s.data.toList j=true);(case atStart=>exact⟨0,by omega,rfl,rfl,rfl,fun _ h=>absurd h Om⟩);(case round=>have Zdf:=0;exact V309)
end
section
section
variable {P:Program} {ops:Array Oper} {Q:Exit→Act→World→Prop} {md:Region.Mode} {S:World→Prop} {eP:List Nat}
def wpLate (P:Program) (md:Region.Mode) (ops:Array Oper) (Q:Exit→Act→World→Prop) (S:World→Prop) (eP:List Nat):Nat→Array Bool→Act→World→Prop
 |0,gR,a,w=>Region.ready md ops gR=[]∧Q .normal a w
 |n+1,gR,a,w=>(Region.ready md ops gR=[]→Q .normal a w)∧
  ∀j∈Region.ready md ops gR,wpOp P ops Q j (fun b u=>(j∉eP→S u)∧wpLate P md ops Q S eP n (gR.setIfInBounds j true) b u) a w
theorem wpLate.any {n:Nat}:∀{gR:Array Bool} {a:Act} {w:World},wpLate P md ops Q S eP n gR a w→wpAny P md ops Q n gR a w:=by
 induction n with
  |zero=>intro gR a w h;exact h
  |succ n ih=>intro gR a w h;exact⟨h.1,fun j hj=>wpOp_mono (fun b u hb=>ih hb.2) (h.2 j hj)⟩
def Fx (md:Region.Mode) (ops:Array Oper):Nat→Nat→Nat→Bool
 |0,_,_=>false
 |f+1,j,i=>match ops[j]? with
  |none=>false
  |some o=>o.after.any fun e=>Region.binds md e&&(e.on==i||Fx md ops f e.on i)
def Fr (md:Region.Mode) (ops:Array Oper) (gR:Array Bool):Prop:=
 ∀j o,ops[j]? =some o→gR.getD j false=true→∀e∈o.after,Region.binds md e=true→gR.getD e.on false=true
def Ui (md:Region.Mode) (ops:Array Oper) (gR:Array Bool):Bool:=
 (List.range ops.size).all fun j=>!gR.getD j false||match ops[j]? with
  |none=>true
  |some o=>o.after.all fun e=>!Region.binds md e||gR.getD e.on false
theorem H5 {gR:Array Bool} (h:Ui md ops gR=true):Fr md ops gR:=by intro j o ho hj e he hb;have dH:j<ops.size:=(Array.getElem?_eq_some_iff.1 ho).1;have h1:=List.all_eq_true.1 h j (List.mem_range.2 dH);rw[hj,ho]at h1;simp only[Bool.not_true,Bool.false_or]at h1;have h2:=Array.all_eq_true_iff_forall_mem.1 h1 e he;rw[hb]at h2;simpa using h2
theorem r7 {gR:Array Bool} (hc:Fr md ops gR) (f:Nat):∀(j i:Nat) (o:Oper),ops[j]? =some o→(∀e∈o.after,Region.binds md e=true→gR.getD e.on false=true)→Fx md ops f j i=true→gR.getD i false=true:=by
 induction f with
  |zero=>intro j i o _ _ h;cases h
  |succ f ih=>
   intro j i o ho eT h
   rw[Fx,ho]at h
   simp only at h
   obtain⟨e,he,hb⟩:=Array.any_eq_true'.1 h
   rw[aV,Bool.or_eq_true,beq_iff_eq]at hb
   obtain⟨kF,eL⟩:=hb
   have hd:=eT e he kF
   rcases eL with rfl|eL
   ·exact hd
   ·rcases e2:ops[e.on]? with _|o2
    ·cases f with
     |zero=>cases eL
     |succ f=>rw[Fx,e2]at eL;cases eL
    ·exact ih e.on i o2 e2 (hc e.on o2 e2 hd) eL
theorem jq {gR:Array Bool} (hc:Fr md ops gR) {f j:Nat} (hr:eP.all (fun k=>Fx md ops f k i)=true) (uz:gR.getD i true=false) (hj:j∈Region.ready md ops gR):j∉eP:=by intro hl;obtain⟨_,o,ho,eT⟩:=mem_ready.1 hj;have h1:=r7 hc f j i o ho eT (List.all_eq_true.1 hr j hl);rcases Nat.lt_or_ge i gR.size with h|h;(·simp[h]at h1 uz;rw[h1]at uz;cases uz);(·simp[Array.getElem?_eq_none h]at uz)
theorem qv {gR:Array Bool} (hc:Fr md ops gR) {j:Nat} (hj:j∈Region.ready md ops gR):Fr md ops (gR.setIfInBounds j true):=by intro k o ho hk e he hb;by_cases hkj:j=k;(·subst hkj;obtain⟨_,o2,ho2,eT⟩:=mem_ready.1 hj;rw[ho]at ho2;injection ho2 with ho2;subst ho2;exact getD_set_true (eT e he hb));(·rw[getD_set_ne false hkj]at hk;exact getD_set_true (hc k o ho hk e he hb))
theorem Rw {oi:Oper} (hi:ops[i]? =some oi) (hs:Region.noSelect ops=true) (f:Nat) (hlate:eP.all (fun k=>Fx md ops f k i)=true)
 (hQ:∀c a w,Q (.panic c) (a.put oi.dst v) w→Q (.panic c) a w) (n:Nat):∀(gR:Array Bool) (a:Act) (w:World),Fr md ops gR→
  (∀j oj,ops[j]? =some oj→j≠i→gR.getD j true=false→(∀e∈oj.after,Region.binds md e=true→e.on≠i)→oi.apart ops oj=true)→
  i∈Region.ready md ops gR→YieldsIf P ops S oi v a→S w→
  wpLate P md ops Q S eP n (gR.setIfInBounds i true) (a.put oi.dst v) w→wpLate P md ops Q S eP (n+1) gR a w:=by
 induction n with
  |zero=>
   intro gR a w hc Ii hr hy hS H
   refine⟨fun h0=>absurd (h0▸hr) Si,fun j hj=>?_⟩
   rcases Decidable.em (j=i)with e|e
   ·rw[e]
    exact hy.wpOp hi hS ⟨fun _=>hS,H⟩
   ·exact absurd (H.1▸ready_mono hj e) Si
  |succ n ih=>
   intro gR a w hc Ii hr hy hS H
   have uz:=(mem_ready.1 hr).1
   refine⟨fun h0=>absurd (h0▸hr) Si,fun j hj=>?_⟩
   rcases Decidable.em (j=i)with e|e
   ·rw[e]
    exact hy.wpOp hi hS ⟨fun _=>hS,H⟩
   ·have sX:=jq hc hlate uz hj
    obtain⟨hju,oj,hoj,eT⟩:=mem_ready.1 hj
    have lE:∀x∈oj.after,Region.binds md x=true→x.on≠i:=by
     intro x hx hb wZ
     have h1:=eT x hx hb
     rw[wZ]at h1
     rcases Nat.lt_or_ge i gR.size with h|h
     ·simp[h]at h1 uz
      rw[h1]at uz
      cases uz
     ·simp[Array.getElem?_eq_none h]at h1
    have hmove:=wpOp_putIf hoj (Ii j oj hoj e hju lE) (fun cs b=>Region.noSelect_spec hs i oi cs b hi) (fun cs b=>Region.noSelect_spec hs j oj cs b hoj) hQ hy (H.2 j (ready_mono hj e))
    refine wpOp_mono (fun b u hb=>⟨hb.2.1,ih _ b u (qv hc hj) ?_ (ready_mono hr (fun h=>e h.symm)) hb.1 (hb.2.1 sX) ?_⟩) hmove
    ·intro k ok uB yD hku hkn
     refine Ii k ok uB yD ?_ hkn
     rcases Decidable.em (j=k)with ejk|ejk
     ·rw[←ejk];exact hju
     ·rwa[getD_set_ne true ejk]at hku
    ·rw[Array.setIfInBounds_comm _ _ e]
     exact hb.2.2
theorem Vr {oi:Oper} {n:Nat} {gR:Array Bool} (hi:ops[i]? =some oi) (hs:Region.noSelect ops=true)
 (hl:eP.all (fun k=>Fx md ops ops.size k i)=true) (hc:Ui md ops gR=true) (hf:Region.free md ops gR i=true) (hr:(Region.ready md ops gR).contains i=true)
 (hQ:∀c a w,Q (.panic c) (a.put oi.dst v) w→Q (.panic c) a w) (hy:YieldsIf P ops S oi v a) (hS:S w)
 (h:wpLate P md ops Q S eP n (gR.setIfInBounds i true) (a.put oi.dst v) w):wpLate P md ops Q S eP (n+1) gR a w:=
 Rw hi hs ops.size hl hQ n gR a w (H5 hc) (Region.free_spec hi hf) (by simpa using hr) hy hS h
theorem uU {rs:List Nat} {n:Nat} {gR:Array Bool} (hr:Region.ready md ops gR=rs) (fM:rs≠[])
 (h:∀j∈rs,wpOp P ops Q j (fun b u=>(j∉eP→S u)∧wpLate P md ops Q S eP n (gR.setIfInBounds j true) b u) a w):wpLate P md ops Q S eP (n+1) gR a w:=
 ⟨fun h0=>absurd (hr▸h0) fM,hr▸h⟩
def ReadyL (P:Program) (md:Region.Mode) (ops:Array Oper) (Q:Exit→Act→World→Prop) (S:World→Prop) (eP:List Nat) (n:Nat) (gR:Array Bool) (a:Act) (w:World) (rs:List Nat):Prop:=
 ∀j∈rs,wpOp P ops Q j (fun b u=>(j∉eP→S u)∧wpLate P md ops Q S eP n (gR.setIfInBounds j true) b u) a w
theorem ReadyL.nil {n:Nat} {gR:Array Bool}:ReadyL P md ops Q S eP n gR a w []:=fun _ h=>by cases h
theorem ReadyL.cons {n:Nat} {gR:Array Bool} {j:Nat} {o:Oper} {rs:List Nat} (ho:ops[j]? =some o)
 (h:∀K:Act→World→Prop,Shut (∀b u,(j∉eP→S u)→((j∉eP→S u)→wpLate P md ops Q S eP n (gR.setIfInBounds j true) b u)→K b u)→if Region.wanted o (yielded ops a.tmps)=true then Oper.wp P o a w K Q else K (a.put o.dst undef) w)
 (hs:ReadyL P md ops Q S eP n gR a w rs):ReadyL P md ops Q S eP n gR a w (j::rs):=fun k hk=>by
 rcases List.mem_cons.1 hk with rfl|hk
 ·exact wpOp_step ho (fun K hK=>h K (fun b u hS hW=>hK b u ⟨hS,hW hS⟩))
 ·exact hs k hk
theorem Fs {gR:Array Bool} {a:Act} {w:World} (hr:Region.ready md ops gR=[]) (h:Q .normal a w):∀n,wpLate P md ops Q S eP n gR a w
 |0=>⟨hr,h⟩
 |_+1=>⟨fun _=>h,by rw[hr];simp⟩
theorem xR (S:World→Prop) (eP:List Nat) {id:Nat} (hm:P.follows .mixedOrders=true) (hS:S w.drew)
 (h:S w.drew→wpLate P .any ops Q S eP ops.size (Array.replicate ops.size false) a w.drew):(Code.region id ops true).wp P Q a w:=
 wp_region_any hm (h hS).any
end
end
section
open Go.RowKit
section
variable {P:Program} {ops:Array Oper} {Q:Exit→Act→World→Prop} {md:Region.Mode}
def uv (o:Oper):Bool:=match o.op with
 | .move _| .assign _| .pick .. | .build .. | .load .. | .nilCheck _| .binOp .. | .unOp .. | .convert .. | .slice .. | .fieldAddr .. | .indexAddr .. | .lookup .. | .extract .. =>true
 | .call c=>match c.callee with| .builtin .len=>true|_=>false
 |_=>false
theorem rq {s:Sem Value} {n:Next} (h:(do pure (Next.value (←s)):Sem Next).run P w=.ok n w'):∃u,n=.value u:=by
 simp only[Sem.run_bind,Sem.run_pure]at h
 cases e:s.run P w with
  |ok v w1=>rw[e]at h;simp only[cG]at h;injection h with h _;exact⟨v,h.symm⟩
  |halt x w1=>rw[e]at h;simp only[cG]at h;cases h
theorem jt {o:Oper} (hk:uv o=true) {ρ:Operand→Value} {n:Next} (h:(execOp ρ o).run P w=.ok n w'):∃u,n=.value u:=by
 obtain⟨dst,op,type,pos,after,guard⟩:=o;unfold uv at hk;unfold execOp at h;(cases op<;>simp only at hk h<;>first|(cases hk;done)|exact rq h|skip);(case move=>simp only[Sem.run_pure]at h;injection h with h _;exact⟨_,h.symm⟩);(case assign=>simp only[Sem.run_pure]at h;injection h with h _;exact⟨_,h.symm⟩)
 case pick c x y=>
  simp only[Sem.run_bind,Sem.run_pure]at h
  cases e:(asBool (ρ c)).run P w with
  |ok v w1=>rw[e]at h;simp only[cG]at h;injection h with h _;exact⟨_,h.symm⟩
  |halt x w1=>rw[e]at h;simp only[cG]at h;cases h
 case call c=>
  obtain⟨callee,args,Ca⟩:=c
  cases callee with
  |builtin b=>
   cases b<;>simp only at hk<;>first|(cases hk;done)|skip
   simp only[resolve,Sem.run_bind,Sem.run_pure,cG,invoke,builtin]at h
   cases e:(Builtin.len_ Ca type (args.map ρ)).run P w with
   |ok v w1=>rw[e]at h;simp only[cG]at h;injection h with h _;exact⟨_,h.symm⟩
   |halt x w1=>rw[e]at h;simp only[cG]at h;cases h
  |_=>cases hk
 case nilCheck x=>
  (have hp:(runtimePanic .nilDeref:Sem Next).run P w=.ok n w'→False:=fun h=>by simp[runtimePanic]at h);split at h;(·exact(hp h).elim);(·exact(hp h).elim);(·exact(hp h).elim)
  ·split at h;(·exact(hp h).elim)
   ·rename_i name fst gN _ v t x _;simp only[Sem.run_bind]at h
    cases e:(program).run P w with
     |ok p w1=>
      rw[e]at h
      simp only[cG]at h
      cases e2:(nilAhead (p.types.size+Made.depth) t x name).run P w1 with
      |ok q w2=>
       rw[e2]at h
       simp only[cG]at h
       split at h
       ·simp at h
       ·simp only[Sem.run_pure]at h;injection h with h _;exact⟨_,h.symm⟩
      |halt y w2=>rw[e2]at h;simp only[cG]at h;cases h
     |halt y w1=>rw[e]at h;simp only[cG]at h;cases h
   (·simp only[Sem.run_pure]at h;injection h with h _;exact⟨_,h.symm⟩)
  (·simp only[Sem.run_pure]at h;injection h with h _;exact⟨_,h.symm⟩)
theorem So {C:World→Prop} {o:Oper} {a:Act} {v:Value} {w0:World} (hk:uv o=true) (hw:Region.wanted o (yielded ops a.tmps)=true) (h:∀w,C w→o.quietAt P a C w v):YieldsIf P ops C o v a:=by
 refine .inl ⟨hw,fun w hC=>?_⟩;have h1:=h w hC;unfold Oper.quietAt at h1;generalize e:(execOp a.eval o).run P w=r at h1
 cases r with
  |ok n w'=>
   obtain⟨u,rfl⟩:=jt hk e
   simp only[Oper.quietUpon]at h1
   rw[h1.1,h1.2]
  |halt x w'=>simp only[Oper.quietUpon]at h1
def xT (md:Region.Mode) (ops:Array Oper) (eP:List Nat):List Nat→Array Bool→Bool
 |[],_=>true
 |i::r,gR=>(match ops[i]? with|some o=>uv o|none=>false)&&eP.all (fun k=>Fx md ops ops.size k i)&&Ui md ops gR&&Region.free md ops gR i&&(Region.ready md ops gR).contains i&&xT md ops eP r (gR.setIfInBounds i true)
def pM (gR:Array Bool) (l:List Nat):Array Bool:=l.foldl (fun d i=>d.setIfInBounds i true) gR
theorem lZ {C:World→Prop} {eP:List Nat} {R:Act→Prop} (hs:Region.noSelect ops=true) (hQ:∀c a d v w,Q (.panic c) (Act.put a d v) w→Q (.panic c) a w):
 ∀(qs:List Nat) (gR:Array Bool) (a:Act) (w:World) (n:Nat),xT md ops eP qs gR=true→C w→wpQuiet P ops C R (qs.filterMap (ops[·]?)) a→(∀a',R a'→wpLate P md ops Q C eP n (pM gR qs) a' w)→wpLate P md ops Q C eP (n+qs.length) gR a w
 |[],gR,a,w,n,_,_,h,hR=>hR a h
 |i::r,gR,a,w,n,hB,hC,h,hR=>by
  rw[xT]at hB
  simp only[aV]at hB
  obtain⟨⟨⟨⟨⟨hk,hl⟩,hc⟩,hf⟩,hr⟩,hB⟩:=hB
  cases e:ops[i]? with
  |none=>rw[e]at hk;cases hk
  |some o=>
   rw[e]at hk
   rw[List.filterMap_cons,e]at h
   simp only at h hk
   rw[wpQuiet]at h
   have hnext:∃v,YieldsIf P ops C o v a∧wpQuiet P ops C R (r.filterMap (ops[·]?)) (a.put o.dst v):=by
    split at h
    ·rename_i hw
     obtain⟨v,h1,h2⟩:=h
     exact⟨v,So (w0:=w) hk hw h1,h2⟩
    ·rename_i hw
     exact⟨undef,.inr ⟨by simpa using hw,rfl⟩,h⟩
   obtain⟨v,hy,hq⟩:=hnext
   exact Vr e hs hl hc hf hr (fun c a w h=>hQ c a _ _ w h) hy hC (lZ hs hQ r _ _ w n hB hC hq hR)
theorem Oper.wp_into {Q Q':Exit→Act→World→Prop} {o:Oper} {K:Act→World→Prop} (h1:∀c a w,Q (.panic c) a w→Q' (.panic c) a w) (h2:LetsOut Q→LetsOut Q') (h:o.wp P a w K Q):o.wp P a w K Q':=by
 unfold Oper.wp at*;generalize (execOp a.eval o).run P w=r at*
 cases r with
  |ok n w'=>
   cases n<;>simp only[Oper.upon]at h⊢
   all_goals first|exact h|skip
   refine h.mono fun e gL he=>?_
   cases e with
   |returned v=>exact he
   |panicked c=>exact h1 _ _ _ he
   |outgrown=>exact h2 he
  |halt x w'=>cases x<;>simp only[Oper.upon]at h⊢<;>first|exact h|exact h1 _ _ _ h
def f8:List (List Nat×Nat)→List Nat→Nat
 |[],fin=>fin.length
 |(qs,_)::r,fin=>f8 r fin+1+qs.length
def Q7 (md:Region.Mode) (ops:Array Oper) (eP:List Nat):List (List Nat×Nat)→List Nat→Array Bool→Bool
 |[],fin,gR=>xT md ops eP fin gR&&(Region.ready md ops (pM gR fin)).isEmpty
 |(qs,i)::r,fin,gR=>xT md ops eP qs gR&&(Region.ready md ops (pM gR qs)==[i])&&decide (i<ops.size)&&(!eP.contains i||(r.isEmpty&&fin.isEmpty))&&Q7 md ops eP r fin ((pM gR qs).setIfInBounds i true)
def Se (P:Program) (ops:Array Oper) (Q:Exit→Act→World→Prop) (S:World→Prop) (eP:List Nat):List (List Nat×Nat)→List Nat→Act→World→Prop
 |[],fin,a,w=>wpQuiet P ops S (fun a'=>Q .normal a' w) (fin.filterMap (ops[·]?)) a
 |(qs,i)::r,fin,a,w=>wpQuiet P ops S (fun a'=>wpList P ops (fun x b u=>match x with| .normal=>(i∉eP→S u)∧Se P ops Q S eP r fin b u|x=>Q x b u) ([i].filterMap (ops[·]?)) a' w) (qs.filterMap (ops[·]?)) a
theorem Aw {S:World→Prop} {eP:List Nat} (hs:Region.noSelect ops=true) (hQ:∀c a d v w,Q (.panic c) (Act.put a d v) w→Q (.panic c) a w):∀(Sd:List (List Nat×Nat)) (fin:List Nat) (gR:Array Bool) (a:Act) (w:World),Q7 md ops eP Sd fin gR=true→(Sd≠[]∨fin≠[]→S w)→
 Se P ops Q S eP Sd fin a w→wpLate P md ops Q S eP (f8 Sd fin) gR a w
 |[],fin,gR,a,w,hB,hS,h=>by
  rw[Q7,aV]at hB
  rw[Se]at h
  rw[f8]
  cases fin with
  |nil=>exact⟨by simpa[pM]using hB.2,h⟩
  |cons f fin=>
   have:=lZ (n:=0) hs hQ (f::fin) gR a w hB.1 (hS (.inr Si)) h fun a' ha=>Fs (by simpa using hB.2) ha 0
   rwa[Nat.zero_add]at this
 |(qs,i)::r,fin,gR,a,w,hB,hS,h=>by
  rw[Q7]at hB
  simp only[aV,beq_iff_eq,decide_eq_true_eq]at hB
  obtain⟨⟨⟨⟨ht,hr⟩,hi⟩,dH⟩,hB⟩:=hB
  rw[Se]at h
  rw[f8]
  refine lZ hs hQ qs gR a w _ ht (hS (.inl Si)) h fun a' ha=>?_
  have e:ops[i]? =some ops[i]:=Array.getElem?_eq_getElem hi
  rw[List.filterMap_cons,e,List.filterMap_nil]at ha
  simp only at ha
  rw[wpList]at ha
  refine uU (rs:=[i]) hr Si fun j hj=>?_
  simp only[aK]at hj
  subst hj
  have OP:∀b u,(j∉eP→S u)∧Se P ops Q S eP r fin b u→(j∉eP→S u)∧wpLate P md ops Q S eP (f8 r fin) ((pM gR qs).setIfInBounds j true) b u:=fun b u ⟨h1,h2⟩=>
   ⟨h1,by
    by_cases hl:j∈eP
    ·rw[show eP.contains j=true from List.contains_iff_mem.2 hl]at dH
     simp only[Bool.not_true,Bool.false_or,aV,List.isEmpty_iff]at dH
     obtain⟨rfl,rfl⟩:=dH
     exact Aw hs hQ [] [] _ b u hB (fun h=>by simp at h) h2
    ·exact Aw hs hQ r fin _ b u hB (fun _=>h1 hl) h2⟩
  unfold wpOp
  rw[e]
  simp only
  split at ha
  ·rename_i hw
   rw[if_pos hw]
   rcases ha with ha|⟨h1,h2⟩
   ·exact .inl (Oper.wp_into (fun c a w h=>h) (fun⟨a,w,h⟩=>⟨a,w,h⟩) (Oper.wp_mono (fun b u hb=>OP b u hb) ha))
   ·exact .inr ⟨h1,h2.elim fun a h=>h.elim fun w h=>⟨a,w,h⟩⟩
  ·rename_i hw
   rw[if_neg hw]
   exact OP _ _ ha
theorem dP {id:Nat} {l:List Oper} (D:World→Prop) (eP:List Nat) (Sd:List (List Nat×Nat)) (fin:List Nat) (hm:P.follows .mixedOrders=true)
 (hB:(Region.noSelect l.toArray&&Q7 .any l.toArray eP Sd fin (Array.replicate l.toArray.size false)&&(f8 Sd fin==l.toArray.size))=true)
 (hQ:∀c a d v w,Q (.panic c) (Act.put a d v) w→Q (.panic c) a w) (hD:D w.drew)
 (h:∀(ι:Type) [Nonempty ι] (F:ι→World),Hid (∀n,D (F n))→Hid (∀w',D w'→∃n,w'=F n)→Se P l.toArray Q (fun w'=>∃n,w'=F n) eP Sd fin a w.drew):
 (Code.region id l.toArray true).wp P Q a w:=by have Z2q:=0;exact V43
theorem dL {S:World→Prop} {eP:List Nat} {qs fin:List Nat} {r:List (List Nat×Nat)} (h:wpQuiet P ops S (fun a'=>wpList P ops (fun x b u=>match x with| .normal=>(i∉eP→S u)∧Se P ops Q S eP r fin b u|x=>Q x b u) ([i].filterMap (ops[·]?)) a' w) (qs.filterMap (ops[·]?)) a):Se P ops Q S eP ((qs,i)::r) fin a w:=h
theorem sQ {S:World→Prop} {eP:List Nat} {fin:List Nat} (h:wpQuiet P ops S (fun a'=>Q .normal a' w) (fin.filterMap (ops[·]?)) a):Se P ops Q S eP [] fin a w:=h
end
inductive SegT where
 |fin (qs:List Nat)
 |one (qs:List Nat) (i:Nat) (r:SegT)
 |two (qs:List Nat) (i:Nat) (r:SegT) (j:Nat) (s:SegT)
def SegT.n:SegT→Nat
 | .fin qs=>qs.length
 | .one qs _ r=>r.n+1+qs.length
 | .two qs _ r _ _=>r.n+1+qs.length
def SegT.done:SegT→Bool
 | .fin []=>true
 |_=>false
section
variable {P:Program} {ops:Array Oper} {Q:Exit→Act→World→Prop} {md:Region.Mode}
def SegT.ok (md:Region.Mode) (ops:Array Oper) (eP:List Nat):SegT→Array Bool→Bool
 | .fin qs,gR=>xT md ops eP qs gR&&(Region.ready md ops (pM gR qs)).isEmpty
 | .one qs i r,gR=>xT md ops eP qs gR&&(Region.ready md ops (pM gR qs)==[i])&&decide (i<ops.size)&&(!eP.contains i||r.done)&&r.ok md ops eP ((pM gR qs).setIfInBounds i true)
 | .two qs i r j s,gR=>xT md ops eP qs gR&&(Region.ready md ops (pM gR qs)==[i,j])&&decide (i<ops.size)&&decide (j<ops.size)&&!eP.contains i&&!eP.contains j&&(r.n==s.n)&&r.ok md ops eP ((pM gR qs).setIfInBounds i true)&&s.ok md ops eP ((pM gR qs).setIfInBounds j true)
def SegT.run (P:Program) (ops:Array Oper) (Q:Exit→Act→World→Prop) (S:World→Prop) (eP:List Nat):SegT→Act→World→Prop
 | .fin qs,a,w=>wpQuiet P ops S (fun a'=>Q .normal a' w) (qs.filterMap (ops[·]?)) a
 | .one qs i r,a,w=>wpQuiet P ops S (fun a'=>wpList P ops (fun x b u=>match x with| .normal=>(i∉eP→S u)∧r.run P ops Q S eP b u|x=>Q x b u) ([i].filterMap (ops[·]?)) a' w) (qs.filterMap (ops[·]?)) a
 | .two qs i r j s,a,w=>wpQuiet P ops S (fun a'=>wpList P ops (fun x b u=>match x with| .normal=>(i∉eP→S u)∧r.run P ops Q S eP b u|x=>Q x b u) ([i].filterMap (ops[·]?)) a' w∧
  wpList P ops (fun x b u=>match x with| .normal=>(j∉eP→S u)∧s.run P ops Q S eP b u|x=>Q x b u) ([j].filterMap (ops[·]?)) a' w) (qs.filterMap (ops[·]?)) a
theorem uT {K K':Act→World→Prop} (hi:i<ops.size) (hK:∀b u,K b u→K' b u) (h:wpList P ops (fun x b u=>match x with| .normal=>K b u|x=>Q x b u) ([i].filterMap (ops[·]?)) a w):wpOp P ops Q i K' a w:=by have e:ops[i]? =some ops[i]:=Array.getElem?_eq_getElem hi;rw[List.filterMap_cons,e,List.filterMap_nil]at h;simp only at h;rw[wpList]at h;unfold wpOp;rw[e];simp only;split at h;(·rename_i hw;rw[if_pos hw];rcases h with h|⟨h1,h2⟩;(·exact .inl (Oper.wp_into (fun c a w h=>h) (fun⟨a,w,h⟩=>⟨a,w,h⟩) (Oper.wp_mono (fun b u hb=>hK b u hb) h)));(·exact .inr ⟨h1,h2.elim fun a h=>h.elim fun w h=>⟨a,w,h⟩⟩));(·rename_i hw;rw[if_neg hw];exact hK _ _ h)
theorem sO {S:World→Prop} {eP:List Nat} (hs:Region.noSelect ops=true) (hQ:∀c a d v w,Q (.panic c) (Act.put a d v) w→Q (.panic c) a w):∀(t:SegT) (gR:Array Bool) (a:Act) (w:World),t.ok md ops eP gR=true→(t.done=false→S w)→
 t.run P ops Q S eP a w→wpLate P md ops Q S eP t.n gR a w
 | .fin fin,gR,a,w,hB,hS,h=>by
  rw[SegT.ok,aV]at hB
  rw[SegT.run]at h
  rw[SegT.n]
  cases fin with
  |nil=>exact⟨by simpa[pM]using hB.2,h⟩
  |cons f fin=>
   have:=lZ (n:=0) hs hQ (f::fin) gR a w hB.1 (hS rfl) h fun a' ha=>Fs (by simpa using hB.2) ha 0
   rwa[Nat.zero_add]at this
 | .one qs i r,gR,a,w,hB,hS,h=>by
  rw[SegT.ok]at hB
  simp only[aV,beq_iff_eq,decide_eq_true_eq]at hB
  obtain⟨⟨⟨⟨ht,hr⟩,hi⟩,dH⟩,hB⟩:=hB
  rw[SegT.run]at h
  rw[SegT.n]
  refine lZ hs hQ qs gR a w _ ht (hS rfl) h fun a' ha=>?_
  refine uU (rs:=[i]) hr Si fun j hj=>?_
  simp only[aK]at hj
  subst hj
  refine uT hi (fun b u ⟨h1,h2⟩=>⟨h1,?_⟩) ha
  refine sO hs hQ r _ b u hB (fun hd=>?_) h2
  by_cases hl:j∈eP
  ·rw[show eP.contains j=true from List.contains_iff_mem.2 hl,hd]at dH
   simp at dH
  ·exact h1 hl
 | .two qs i r j s,gR,a,w,hB,hS,h=>by
  rw[SegT.ok]at hB
  simp only[aV,beq_iff_eq,decide_eq_true_eq,Bool.not_eq_true']at hB
  obtain⟨⟨⟨⟨⟨⟨⟨⟨ht,hr⟩,hi⟩,hj⟩,hli⟩,hlj⟩,hn⟩,LJ⟩,ob⟩:=hB
  have nl:∀{k:Nat},eP.contains k=false→k∉eP:=fun h hk=>by
   rw[List.contains_iff_mem.2 hk]at h
   cases h
  rw[SegT.run]at h
  rw[SegT.n]
  refine lZ hs hQ qs gR a w _ ht (hS rfl) h fun a' ha=>?_
  refine uU (rs:=[i,j]) hr Si fun k hk=>?_
  simp only[bF,aZ,or_false]at hk
  rcases hk with rfl|rfl
  ·exact uT hi (fun b u ⟨h1,h2⟩=>⟨h1,sO hs hQ r _ b u LJ (fun _=>h1 (nl hli)) h2⟩) ha.1
  ·rw[hn]
   exact uT hj (fun b u ⟨h1,h2⟩=>⟨h1,sO hs hQ s _ b u ob (fun _=>h1 (nl hlj)) h2⟩) ha.2
theorem iP {id:Nat} {l:List Oper} (D:World→Prop) (eP:List Nat) (t:SegT) (hm:P.follows .mixedOrders=true)
 (hB:(Region.noSelect l.toArray&&t.ok .any l.toArray eP (Array.replicate l.toArray.size false)&&(t.n==l.toArray.size))=true)
 (hQ:∀c a d v w,Q (.panic c) (Act.put a d v) w→Q (.panic c) a w) (hD:D w.drew)
 (h:∀(ι:Type) [Nonempty ι] (F:ι→World),Hid (∀n,D (F n))→Hid (∀w',D w'→∃n,w'=F n)→t.run P l.toArray Q (fun w'=>∃n,w'=F n) eP a w.drew):
 (Code.region id l.toArray true).wp P Q a w:=by have Z2r:=0;exact V43
theorem eX {S:World→Prop} {eP:List Nat} {qs:List Nat} {r:SegT} (h:wpQuiet P ops S (fun a'=>wpList P ops (fun x b u=>match x with| .normal=>(i∉eP→S u)∧r.run P ops Q S eP b u|x=>Q x b u) ([i].filterMap (ops[·]?)) a' w) (qs.filterMap (ops[·]?)) a):(SegT.one qs i r).run P ops Q S eP a w:=h
theorem Jb {S:World→Prop} {eP:List Nat} {qs:List Nat} {j:Nat} {r s:SegT} (h:wpQuiet P ops S (fun a'=>wpList P ops (fun x b u=>match x with| .normal=>(i∉eP→S u)∧r.run P ops Q S eP b u|x=>Q x b u) ([i].filterMap (ops[·]?)) a' w∧
 wpList P ops (fun x b u=>match x with| .normal=>(j∉eP→S u)∧s.run P ops Q S eP b u|x=>Q x b u) ([j].filterMap (ops[·]?)) a' w) (qs.filterMap (ops[·]?)) a):(SegT.two qs i r j s).run P ops Q S eP a w:=h
theorem nY {S:World→Prop} {eP:List Nat} {fin:List Nat} (h:wpQuiet P ops S (fun a'=>Q .normal a' w) (fin.filterMap (ops[·]?)) a):(SegT.fin fin).run P ops Q S eP a w:=h
end
end
end Go.Proofs.YtfbmaffacikgbaaGreat
