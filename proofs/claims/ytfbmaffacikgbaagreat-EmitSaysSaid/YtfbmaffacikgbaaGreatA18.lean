/- A part of the proof of EmitSays. -/
import Derived.Test.YtfbmaffacikgbaaGreatA17
set_option maxRecDepth 100000
set_option maxHeartbeats 4000000
set_option linter.unusedVariables false
set_option linter.unusedSimpArgs false
open Go renaming Calls→O
open Go.Proofs.Tryz renaming prog→U
open Nat renaming le_refl→aA,lt_of_lt_of_le→aF,le_trans→aG,zero_le→aJ
open List renaming getElem?_eq_getElem→aB,length_append→aD,getElem_mem→aE,length_map→aI,mem_singleton→aK,take_succ_eq_append_getElem→aL,length_cons→aM,getD_eq_getElem?_getD→aN,length_take→aO,mem_cons_of_mem→aP,getElem_of_mem→aQ,map_append→aS,length_nil→aT,mem_cons_self→aU,take_of_length_le→aY,not_mem_nil→aZ,mem_cons→bF,getElem?_map→bH,append_assoc→bP,set_cons_succ→bS,setIfInBounds_toArray→bX,mem_singleton_self→bY,set_cons_zero→bZ,replicate→cC,map_nil→cM,length_set→cQ
open Go.RowKit.Below renaming refl→aC,heap_setCell→bV
open Go.World renaming alloc_heap_new→aH,ownsRow_nil→bE,frozen?→bN,cell?_of_block→bT,setCell→cN
open Go.Lib renaming alloc_old→aR
open Go.Value renaming slice→aW,int→bL,string→cE
open Go.IntWalk renaming i64_in→aX
open Go.Proofs.Tryz renaming underlying3→bG,underlying9→bW
open And renaming intro→bM
open Go.Value renaming int→cS
open Go.Value renaming slice→cT
open Go.Value renaming string→cU
open Go.Value renaming bool→cV
open Go.Value renaming pointer→cW
open Go.Value renaming agg→cX
open Go.Obj renaming cells→cY
open Go.Ending renaming returned→cZ
open Go.IntKind renaming i64→dA
namespace Go.Proofs.YtfbmaffacikgbaaGreat
variable {w W w' w1 wr w2 wx:World} {B r k ns i size d n' co bg b:Nat} {v va vj v2 v3 v4 v5 v6 vc vr v7 vp v':Value} {e:TypeId} {chg:List TypeId} {l:List Int} {a:Act} {pd ps:Option Addr} {cs:Array Value} {s:ByteArray} {mx x:Int}
section
open Go.RowKit Go.Shelf Ob Ty
structure Up (G:GN) (area copies result slots callee link:Nat):Prop where
 a:area≤62
 c:copies≤72
 r:result≤12
 s:slots≤201
 ce:callee≤1
 l:link≤1
 hs:∀l∈G.os,l.1=true→l.2<slots
 us:∀x∈G.us,4≤x∧x<12
 ul:G.us.length≤8
 e1:G.copies=area
 e2:G.result=area+copies
 e3:G.slots=area+copies+result
 e4:G.count=G.slots+slots
 e5:G.pointer=G.count+(if G.b.ty.many then 1 else 0)
 e6:G.address=G.pointer+(if 0≤G.pl.result then 1 else 0)
 e7:G.callee=G.address+G.pl.params.length
 e8:G.saved=G.callee+callee
 e9:G.link=if link=0 then(-1:Int)else((G.saved+G.us.length:Nat):Int)
 e10:G.size=G.saved+G.us.length+link
theorem CH (h:∀x∈l,4≤x∧x<12) (hn:l.Nodup):l.length≤8:=by
 have key:∀(m:List Int) (l:List Int),l.Nodup→(∀x∈l,x∈m)→l.length≤m.length:=by
  intro m
  induction m with
  |nil=>
   intro l _ hs
   cases l with
   |nil=>exact aA _
   |cons x l=>exact absurd (hs x aU) Si
  |cons a m ih=>
   intro l hn hs
   have h1:=ih (l.erase a) (hn.erase a) fun x hx=>by
    have h2:=(List.Nodup.mem_erase_iff hn).1 hx
    rcases List.mem_cons.1 (hs x h2.2)with h3|h3
    ·exact absurd h3 h2.1
    ·exact h3
   rw[List.length_erase]at h1
   simp only[aM]
   split at h1<;>omega
 (exact key [4,5,6,7,8,9,10,11] l hn fun x hx=>by obtain⟨h1,h2⟩:=h x hx;simp only[bF,aZ,or_false];omega)
structure LayI (w wx:World) (E:UE) (G:GN) (va vj:Value) (us:List Int) (vu:Value):Prop where
 box:wx.heap[G.bg]? =some (cY (Nz E {G with us:=us,vu:=vu} va vj).toArray 110 (0,0))
 r:wx.ownsRow w.heap.size 3 1 vu us.length (jR us)
 f:EFr E.B [110] w wx
section
variable {W w wx w':World} {E:UE} {G:GN} {va vj vu v':Value} {us:List Int}
theorem EFr.next (f:EFr B chg w wx) (hb:Below w.heap.size wx w'):EFr B chg w w':=
 ⟨hb.os.trans f.os,hb.tape.trans f.tape,hb.output.trans f.output,aG f.size hb.size,fun b h c=>(hb.block b h).trans (f.block b h c)⟩
theorem LayI.begun (h0:GenAt W w E G va vj) (hus:G.us=[]) (D1:G.vu=cT none 0 0):LayI w w E G va vj [] (cT none 0 0):=by refine⟨?_,bE _ _ _ _,.refl _ _ _⟩;have h:=h0.box;unfold Nz at h⊢;rw[D1]at h;exact h
theorem LayI.old (h:LayI w wx E G va vj us vu) (hb:dG wx w'):LayI w w' E G va vj us vu:=
 ⟨Kb hb h.box,dR h.r fun g cs e=>hb.block g (dB e),h.f.trans (.of hb)⟩
theorem LayI.gen (h:LayI w wx E G va vj us vu) (h0:GenAt W w E G va vj):GenAt W wx E {G with us:=us,vu:=vu} va vj:=
 ⟨h0.bel.trans ((h.f.below h0.sz).mono h0.hB),h0.hB,aG h0.sz h.f.size,h0.hg,h.box,h0.body,h0.own.keep h.f De De De De,h.f.row h0.locs De,h.f.row h0.tails De,pV h.r h0.sz⟩
theorem LayI.app (h:LayI w wx E G va vj us vu) (h0:GenAt W w E G va vj) {w5:World} (ha:App wx w5 w.heap.size 3 1 vu v' us.length (jR us) [cS dA x]):LayI w (w5.setCell ⟨G.bg,29,none⟩ v') E G va vj (us++[x]) v':=by have f5:EFr w.heap.size [3] wx w5:=ha.fr h.r (aA _) (bY _);have b5:Below w.heap.size wx w5:=f5.below h.f.size;have dH:=dB h0.box;have x5:=(b5.block _ dH).trans h.box;have fs:EFr E.B [110] w5 (w5.setCell ⟨G.bg,29,none⟩ v'):=EFr.set x5 h0.hg (bY _) 29 _;refine⟨eF x5 29 v',?_,(h.f.next b5).trans fs⟩;have h1:=fs.row ha.own De;rw[aD];(have e:jR (us++[x])=jR us++[cS dA x]:=by unfold jR;rw[aS];rfl);rw[e];exact h1
structure LayK (w1 wx:World) (E:UE) (G:GN) (va vj:Value) (n:Nat):Prop where
 box:wx.heap[G.bg]? =some (cY (Nz E G va vj).toArray 110 (0,0))
 n:wx.heap[w1.heap.size]? =some (cY #[cS dA (n:Nat)] 3 (0,0))
 f:EFr E.B [110] w1 wx
variable {w1:World} {n:Nat}
theorem LayK.drew (h:LayK w1 wx E G va vj n):LayK w1 wx.drew E G va vj n:=⟨h.box,h.n,h.f.drew⟩
theorem LayK.set (h:LayK w1 wx E G va vj n) (hB:E.B≤G.bg) (i:Nat) (v:Value) (G':GN) (hb:G'.bg=G.bg) (he:(Nz E G va vj).toArray.setIfInBounds i v=(Nz E G' va vj).toArray):LayK w1 (wx.setCell ⟨G.bg,i,none⟩ v) E G' va vj n:=by have fs:EFr E.B [110] wx (wx.setCell ⟨G.bg,i,none⟩ v):=EFr.set h.box hB (bY _) i _;refine⟨?_,fs.obj h.n De,h.f.trans fs⟩;rw[hb,←he];exact eF h.box i v
theorem LayK.gen (h:LayK w1 wx E G va vj n) {G1:GN} {va1 vj1:Value} (h1:GenAt W w1 E G1 va1 vj1) (e1:G.bg=G1.bg) (e2:G.b=G1.b) (e3:G.v=G1.v) (e4:G.pl=G1.pl) (e5:G.vp=G1.vp∧G.vc=G1.vc∧G.vr=G1.vr) (e6:G.os=G1.os∧G.vo=G1.vo) (e7:G.tl=G1.tl∧G.vt=G1.vt) (e8:G.us=G1.us∧G.vu=G1.vu):GenAt W wx E G va vj:=
 ⟨h1.bel.trans ((h.f.below h1.sz).mono h1.hB),h1.hB,aG h1.sz h.f.size,by rw[e1];exact h1.hg,h.box,by rw[e2,e3];exact h1.body,by rw[e4,e5.1,e5.2.1,e5.2.2];exact h1.own.keep h.f De De De De,by rw[e6.1,e6.2];exact h.f.row h1.locs De,by rw[e7.1,e7.2];exact h.f.row h1.tails De,by rw[e8.1,e8.2];exact h.f.row h1.used De⟩
theorem LayK.fz (h:LayK w1 wx E G va vj n):∀o,wx.frozen? ⟨G.bg,o,none⟩=false:=fun o=>by simp[bN,h.box]
theorem LayK.cell (h:LayK w1 wx E G va vj n) (i:Nat) (hi:(Nz E G va vj)[i]? =some v):wx.cell? ⟨G.bg,i,none⟩=some v:=by rw[cell_of_row wx G.bg i _ _ _ h.box];simpa using hi
theorem LayK.step (h:LayK w1 wx E G va vj n) (hg:G.bg<w1.heap.size) (k:Nat) (hn:n≤100000) (hk:k≤100000):
 O U 68 #[cS dA (k:Nat),cW (some ⟨w1.heap.size,0,none⟩)] wx fun x w'=>x=cZ (cS dA (n:Nat))∧∃n',n'=n+k∧LayK w1 w' E G va vj n':=by refine(gh n k w1.heap.size wx h.n hn hk).mono ?_;rintro x w' ⟨rfl,rfl⟩;refine⟨rfl,n+k,rfl,?_,(eF h.n 0 _).trans rfl,h.f.next (dW (aC _ _) _ _ _ (aA _))⟩;exact(bV _ _ _ _ Sv).trans h.box
end
theorem cw72 {t:T} (h:mL t=true):Lo t (dT t).length≤72:=by obtain⟨h1,h7⟩:=fY h;(have hi:(dT t).length≤6:=by unfold dT;rw[aO];omega);exact aG (Ln t _) (Fy t hi)
def yi (W w w':World) (E:UE) (G:GN) (va vj:Value):Prop:=∃(copies result slots count pointer address callee saved size:Nat) (link:Int) (us:List Int) (vu:Value) (ar cp rs sl ce lk:Nat),
 GenAt W w' E {G with copies:=copies,result:=result,slots:=slots,count:=count,pointer:=pointer,address:=address,callee:=callee,saved:=saved,link:=link,size:=size,us:=us,vu:=vu} va vj∧
 Up {G with copies:=copies,result:=result,slots:=slots,count:=count,pointer:=pointer,address:=address,callee:=callee,saved:=saved,link:=link,size:=size,us:=us,vu:=vu} ar cp rs sl ce lk∧EFr E.B [110] w w'
theorem jp {W w:World} {E:UE} {G:GN} {va vj:Value} {mx:Int} (h:GenAt W w E G va vj) (hmx:Mx mx W) (hf:mL G.b.ty=true) (iU:G.pl=dC G.b.ty) (Bu:∀o∈G.b.code,eD G.b o=true) (JS:∀l∈G.os,l.2≤200∧(l.1=false→l.2<12)) (Id:G.os.length≤200) (LB:0<G.b.code.length) (gQ:G.b.code.length≤200) (nS:G.tl.length≤100000) (hus:G.us=[]) (D1:G.vu=cT none 0 0):
 O U 31 #[cW (some ⟨G.bg,0,none⟩)] w fun x w'=>x=cZ (.tuple #[])∧yi W w w' E G va vj:=by
 have HG:=Ih h;have nN:=Ih hmx;have zO:=Ih Bu;have HOS:=Ih JS;obtain⟨pt,kt,OG,AX,UZ⟩:=dI h.tails;obtain⟨po,ko,TC,VA,hko2⟩:=dI h.locs;obtain⟨c,co,gP,hc,dM⟩:=h.body.code.get LB;have mN:=Ih dM;obtain⟨nc,jA⟩:∃nc,nc=G.v.nc:=⟨_,rfl⟩;obtain⟨kc,oU⟩:∃kc,kc=G.v.kc:=⟨_,rfl⟩;obtain⟨nl,sX⟩:∃nl,nl=G.os.length:=⟨_,rfl⟩;obtain⟨nt,hnt⟩:∃nt,nt=G.tl.length:=⟨_,rfl⟩;have ab:Hid (G.b.code.length=nc):=Ih (h.body.cl.trans jA.symm);(have qT:nc≤kc:=by rw[jA,oU];exact h.body.ck);(have JU:nc≤200:=by rw[←ab.out];exact gQ);have zP:=Ih sX;rw[←hnt]at OG AX nS;rw[←sX]at TC VA Id;obtain⟨many,oD⟩:∃many,many=G.b.ty.many:=⟨_,rfl⟩;obtain⟨rv,vh⟩:∃rv,rv=G.pl.result:=⟨_,rfl⟩;obtain⟨qc,kq,Gj,hkq1,hkq2⟩:=dI h.own.ps.choose_spec.copied;obtain⟨np,nU⟩:∃np,np=G.pl.params.length:=⟨_,rfl⟩;rw[←nU]at Gj hkq1;(have hnp6:np≤6:=by rw[nU,iU,(S7 hf).len];have:=fY hf;unfold dT;rw[aO];omega);(have iJ:Hid (∀wx us vu,LayI w wx E G va vj us vu→wx.cell? ⟨G.bg,19,none⟩=some (cT (some ⟨c,co,none⟩) nc kc)∧wx.cell? ⟨G.bg,27,none⟩=some (cT po nl ko)∧wx.cell? ⟨G.bg,28,none⟩=some (cT pt nt kt)∧wx.cell? ⟨G.bg,29,none⟩=some vu∧G.bg<wx.heap.size∧(∀o,wx.frozen? ⟨G.bg,o,none⟩=false)∧dG W wx):=Ih fun wx us vu hh=>by have g:=hh.gen HG.out;exact⟨(g.cell 19 rfl).trans (by rw[gP,←jA,←oU]),(g.cell 27 rfl).trans (by rw[TC]),(g.cell 28 rfl).trans (by rw[OG]),g.cell 29 rfl,dB g.box,g.fz,g.bel⟩);(have FW:Hid (∀wx us vu,LayI w wx E G va vj us vu→∀i:Nat,O U 65 #[cT pt nt kt,cS dA (i:Nat)] wx fun e gL=>e=cZ (cV (G.tl.contains (i:Int)))∧wx=gL):=Ih fun wx us vu hh i=>by have g:=hh.gen HG.out;have ht:=g.tails;simp only at ht;rw[OG,←hnt]at ht;exact qC (ij ht) hnt.symm Om _);(have dt:Hid (∀wx us vu,LayI w wx E G va vj us vu→0<nl→∃g,po=some ⟨g,0,none⟩∧g<wx.heap.size∧∀j,j<nl→wx.cell? ⟨g,j*2,none⟩=some (cV (G.os.getD j (false,0)).1)∧wx.cell? ⟨g,j*2+1,none⟩=some (cS dA ((G.os.getD j (false,0)).2:Nat))):=Ih fun wx us vu hh h0=>by obtain⟨g,gN,e,-,-,-,eS,kE⟩:=eN (hh.gen HG.out).locs (by simp only;omega);simp only at e kE;rw[TC]at e;injection e with e;refine⟨g,e,eS,fun j hj=>?_⟩;obtain⟨a,b⟩:=uu G.os j Om;exact⟨kE _ _ a,kE _ _ b⟩);(have qE:Hid (∀w1 wx G2 n,LayK w1 wx E G2 va vj n→G2.bg=G.bg→G2.b=G.b→G2.pl=G.pl→G2.vc=G.vc→wx.cell? ⟨G.bg,17,none⟩=some (cV many)∧wx.cell? ⟨G.bg,20,none⟩=some (cS dA rv)∧wx.cell? ⟨G.bg,23,none⟩=some (cT qc np kq)∧wx.cell? ⟨G.bg,29,none⟩=some G2.vu∧G.bg<wx.heap.size):=Ih fun w1 wx G2 n hh e1 e2 e3 e4=>by have a:wx.cell? ⟨G2.bg,17,none⟩=some (cV G2.b.ty.many):=hh.cell 17 rfl;have b:wx.cell? ⟨G2.bg,20,none⟩=some (cS dA G2.pl.result):=hh.cell 20 rfl;have c:wx.cell? ⟨G2.bg,23,none⟩=some G2.vc:=hh.cell 23 rfl;have d:wx.cell? ⟨G2.bg,29,none⟩=some G2.vu:=hh.cell 29 rfl;have l:=dB hh.box;rw[e1]at a b c d l;rw[e2,←oD]at a;rw[e3,←vh]at b;rw[e4,Gj]at c;exact⟨a,b,c,d,l⟩);have Rn:=Ih oD;have J7:=Ih vh;have HNP:=Ih nU;have FJ:=dB h.box;have HL0:=Ih (LayI.begun h hus D1);have gO:=h.sz;have N1:=h.hg;clear h hmx hf iU Bu JS gQ hus D1 OG TC gP dM jA oU sX hnt oD vh Gj nU LB;go_in;obtain⟨Ik,I3,xe,Bz,eS,yf,dJ⟩:=iJ.out _ _ _ HL0.out;go_wp2_with fail;clear Ik I3 xe Bz eS yf dJ;go_loopg[2,3,4,6,7,22] nc (fun gk v2 v3 v4 v6 v7 v22 wx=>∃(i ar cp rs lk ce:Nat),i≤nc∧gk=nc-i∧v22=cS dA i∧v2=cS dA (ar:Nat)∧v3=cS dA (cp:Nat)∧v4=cS dA (rs:Nat)∧v6=cS dA (lk:Nat)∧v7=cS dA (ce:Nat)∧LayI w wx E G va vj [] (cT none 0 0)∧ar≤62∧cp≤72∧rs≤12∧lk≤1∧ce≤1);(case atStart=>exact⟨0,0,0,0,0,0,aJ _,rfl,rfl,rfl,rfl,rfl,rfl,rfl,HL0.out,by omega,by omega,by omega,by omega,by omega⟩)
 case round=>
  clear HL0;obtain⟨i,ar,cp,rs,lk,ce,hi,hgk,rfl,rfl,rfl,rfl,rfl,rfl,hl,ha,Bw,hr,Nu,KX⟩:=hrel;have jJ:=Ih hgk;have HL:=Ih hl;clear hgk hl;obtain⟨Ik,I3,xe,Bz,eS,yf,dJ⟩:=iJ.out _ _ _ HL.out;by_cases dH:i<nc;(·(have eZ:i<G.b.code.length:=by rw[ab.out];exact dH);have qA:(i:Int)<nc:=Om;have VB:(nc:Int)≤kc:=Om;obtain⟨v,fK,oK⟩:=mN.out i eZ;obtain⟨y0,y1,y2,y3,y4,y5,y6,y7,y8,y9⟩:=jY dJ hc fK;have qS:c<wr.heap.size:=aF hc dJ.size;obtain⟨o,Ds⟩:∃o,o=G.b.code[i]:=⟨_,rfl⟩;have UC:=zO.out _ (aE eZ);rw[←Ds]at fK oK UC y0 y3 y4 y5 y6 y9;obtain⟨-,-,Kl⟩:=kH UC;clear fK Ds UC;by_cases h7:o.op=7;(·have fL:=h7;(have vQ:jG o=true:=by rcases Kl with h|h|h|h|h|h|h|h|h|h|h|h|h<;>first|exact h.2|omega);rw[h7]at y0;clear Kl h7;(as_aux_lemma=>have HO:=Ih oK;obtain⟨hf,Qq,PN,h8,lX,Vf,oD,tM⟩:=kQ vQ Om;have hol85:=yQ vQ;(have qK:Hid (∀w',dG W w'→O U 66 #[cX #[cS dA 7,cT v.pd v.nd v.kd,cT v.ps v.ns v.ks,cS dA o.n,cU o.name,cS dA o.ty.kind,cU o.ty.name,cT v.tv.pn v.tv.nn v.tv.kn,cT v.tv.pp v.tv.np v.tv.kp,cV o.ty.many]] w' fun x gL=>∃c:CV,x=cZ (cX (tB o v c).toArray)∧SliceAt W dA c.pw (vZ o)∧(vZ o).length=c.nw∧c.nw≤c.kw∧c.kw≤9223372036854775807∧PlAt gL w'.heap.size (dC o.ty) c.vp c.vc c.vr∧dG w' gL):=Ih fun w' hb=>by exact V476);have Z6d:=0;exact V127));by_cases h8:o.op=8;(·have fL:=h8;(have vQ:jG o=true:=by rcases Kl with h|h|h|h|h|h|h|h|h|h|h|h|h<;>first|exact h.2|omega);rw[h8]at y0;clear Kl h7 h8;(as_aux_lemma=>have HO:=Ih oK;obtain⟨hf,Qq,PN,h8,lX,Vf,oD,tM⟩:=kQ vQ Om;have hol85:=yQ vQ;(have qK:Hid (∀w',dG W w'→O U 66 #[cX #[cS dA 8,cT v.pd v.nd v.kd,cT v.ps v.ns v.ks,cS dA o.n,cU o.name,cS dA o.ty.kind,cU o.ty.name,cT v.tv.pn v.tv.nn v.tv.kn,cT v.tv.pp v.tv.np v.tv.kp,cV o.ty.many]] w' fun x gL=>∃c:CV,x=cZ (cX (tB o v c).toArray)∧SliceAt W dA c.pw (vZ o)∧(vZ o).length=c.nw∧c.nw≤c.kw∧c.kw≤9223372036854775807∧PlAt gL w'.heap.size (dC o.ty) c.vp c.vc c.vr∧dG w' gL):=Ih fun w' hb=>by exact V476);have Z6e:=0;exact V127));(·obtain⟨op,fL⟩:∃op,op=o.op:=⟨_,rfl⟩;rw[←fL]at y0 h7 h8;(have e7:(op !=7)=true:=by simpa using h7);(have e8:(op !=8)=true:=by simpa using h8);have HL2:Hid (LayI w (wr.alloc (cY #[cS dA op,cT v.pd v.nd v.kd,cT v.ps v.ns v.ks,cS dA o.n,cU o.name,cS dA o.ty.kind,cU o.ty.name,cT v.tv.pn v.tv.nn v.tv.kn,cT v.tv.pp v.tv.np v.tv.kp,cV o.ty.many] 71)) E G va vj [] (cT none 0 0)):=Ih (HL.out.old ((aC _ _).alloc (aA _) _));clear h7 h8 fL Kl;have ZdC:=0;exact V328))
  ·obtain rfl:nc=i:=Om;go_wp2_with fail;clear Ik I3 xe Bz eS yf dJ;go_loopg[5,69] nl (fun gk v5 v69 wx=>∃(i sl:Nat) (us:List Int) (vu:Value),i≤nl∧gk=nl-i∧v69=cS dA i∧v5=cS dA (sl:Nat)∧LayI w wx E G va vj us vu∧sl≤201∧(∀j,j<i→(G.os.getD j (false,0)).1=true→(G.os.getD j (false,0)).2<sl)∧(∀x∈us,4≤x∧x<12)∧us.Nodup);(case atStart=>exact⟨0,0,[],_,aJ _,rfl,rfl,rfl,HL.out,by omega,fun j h=>absurd h (Nat.not_lt_zero _),fun x h=>(by cases h),List.nodup_nil⟩)
   case round=>
    clear HL jJ;obtain⟨i,sl,us,vu,hi,hgk,rfl,rfl,hl,lX,hsj,hum,uz⟩:=hrel;have rD:=Ih hgk;have HL:=Ih hl;have hul8:=CH hum uz;obtain⟨pu,ku,rfl,hku1,hku2⟩:=dI hl.r;have HSJ:=Ih hsj;clear hgk hl hsj;obtain⟨Ik,I3,xe,Bz,eS,yf,dJ⟩:=iJ.out _ _ _ HL.out;by_cases dH:i<nl;(·obtain⟨g,rfl,VK,kE⟩:=dt.out _ _ _ HL.out Om;obtain⟨k1,k2⟩:=kE i dH;(have Cx:G.os.getD i (false,0)∈G.os:=by rw[aN,aB (by rw[←zP.out];exact dH)];exact aE _);have lE:=HOS.out _ Cx;(have MI:Hid (∀sl',sl≤sl'→((G.os.getD i (false,0)).1=true→(G.os.getD i (false,0)).2<sl')→∀j,j<i+1→(G.os.getD j (false,0)).1=true→(G.os.getD j (false,0)).2<sl'):=Ih fun sl' h1 h2 j hj h3=>by by_cases e:j=i;(·rw[e]at h3⊢;exact h2 h3);(·exact aF (HSJ.out j Om h3) h1));obtain⟨⟨st,n⟩,US⟩:∃l,l=G.os.getD i (false,0):=⟨_,rfl⟩;rw[←US]at k1 k2 lE MI;simp only at k1 k2 lE MI;have qA:(i:Int)<nl:=Om;have VB:(nl:Int)≤ko:=Om;clear Cx US kE dH;cases st;(·have Mf:=Ih (MI.out sl (aA _) (fun h=>(by cases h)));have hn12:n<12:=lE.2 rfl;obtain⟨wA,gA⟩:∃wA,wA=wr.alloc (cY #[cV false,cS dA (n:Nat)] 149):=⟨_,rfl⟩;obtain⟨QH,Yj⟩:∃QH,QH=wr.heap.size:=⟨_,rfl⟩;have HXA:Hid (wA.heap[QH]? =some (cY #[cV false,cS dA (n:Nat)] 149 (0,0))):=Ih (by rw[gA,Yj];exact heap_alloc_new wr _);have K2:=Ih (HL.out.old (w':=wA) (by rw[gA];exact(aC _ _).alloc (aA _) _));have uO:=Ih gA;have NO:=Ih Yj;clear gA Yj;have KV:Hid (∀q,O U 65 #[cT pu us.length ku,cS dA (n:Nat)] (wA.drewN q) fun e gL=>e=cZ (cV (us.contains (n:Int)))∧wA.drewN q=gL):=Ih fun q=>qC (ij (K2.out.old (below_drewN wA q)).r) rfl Om _;(have HUC:Hid (us.contains (n:Int)=false→¬((n:Int)∈us)):=Ih fun h hm=>by rw[List.contains_iff_mem.2 hm]at h;cases h);obtain⟨uc,huc⟩:∃uc,uc=us.contains (n:Int):=⟨_,rfl⟩;rw[←huc]at KV HUC;clear huc;go_wp2_with fail;rw[←uO.out,←NO.out];clear Ik I3 xe Bz eS yf dJ k1 k2;obtain⟨Ik,I3,xe,Bz,eS,yf,dJ⟩:=iJ.out _ _ _ K2.out;obtain⟨k0,k1,kf⟩:=xJ HXA.out;have l12:=dB HXA.out;by_cases h4:4≤n;(·have e4:decide (4≤n)=true:=decide_eq_true h4;have e4':decide ((4:Int)≤(n:Int))=true:=decide_eq_true Om;have h4i:(4:Int)≤n:=Om;go_quiet ((go_at_call 65;exact Calls.quiet_of_same ((KV.out _).mono fun _ _ ⟨a,b⟩=>⟨a,b.symm⟩)));obtain⟨wq,Hh⟩:∃wq,wq=wA.drewN nq:=⟨_,rfl⟩;have au:Hid (LayI w wq E G va vj us (cT pu us.length ku)):=Ih (by rw[Hh];exact K2.out.old (below_drewN wA nq));have Aa:Hid (wq.heap[QH]? =some (cY #[cV false,cS dA (n:Nat)] 149 (0,0))):=Ih (by rw[Hh];exact HXA.out);(try rw[←Hh]);clear Hh Ik I3 xe Bz eS yf dJ k0 k1 kf l12;cases uc;(·(have hum':∀x∈us++[(n:Int)],4≤x∧x<12:=fun x hx=>by rcases List.mem_append.1 hx with hx|hx;(·exact hum x hx);(·rw[aK]at hx;rw[hx];omega));(have hun':(us++[(n:Int)]).Nodup:=by rw[List.nodup_append];refine⟨uz,by simp,fun a ha b hb e=>?_⟩;rw[aK]at hb;rw[e,hb]at ha;exact HUC.out rfl ha);have Bz:=(iJ.out _ _ _ au.out).2.2.2.1;have ua:Hid ((wq.drew.alloc (cY #[cS dA (n:Nat)] 3)).heap[G.bg]? =wq.heap[G.bg]?∧(wq.drew.alloc (cY #[cS dA (n:Nat)] 3)).heap[QH]? =wq.heap[QH]?):=Ih ⟨aR _ _ _ (dB au.out.box),aR _ _ _ (dB Aa.out)⟩;go_wp2_with fail;(as_aux_lemma=>refine dP (fun w'=>w'.heap[G.bg]? =wq.heap[G.bg]?∧w'.heap[QH]? =wq.heap[QH]?) [11] [([0,1,2,3,4,5,6],7),([],8),([9,10],11)] [] eE Kr (fun _ _ d _ _ h=>by cases d<;>exact h) (⟨rfl,rfl⟩) ?_;intro ι _ F HD HE;have fg:=fun n=>(bT (a:=⟨G.bg,29,none⟩) (HD.out n).1).trans Bz;have fb:=fun n=>xJ ((HD.out n).2.trans Aa.out);have fl:=fun n=>dB ((HD.out n).2.trans Aa.out);have fh:=fun n=>dB ((HD.out n).1.trans au.out.box);refine dL ?_;have Z0B:=0;exact V3));(·exact V316));(·have e4:decide (4≤n)=false:=decide_eq_false h4;have e4':decide ((4:Int)≤(n:Int))=false:=decide_eq_false Om;have h4i:¬(4:Int)≤n:=Om;go_quiet (fail);have au:Hid (LayI w (wA.drewN nq) E G va vj us (cT pu us.length ku)):=Ih (K2.out.old (below_drewN wA nq));exact V316));(·have Mf:=Ih (MI.out (max sl (n+1)) Om (fun _=>by omega));have Qe:IntKind.i64.wrap ((n:Int)+1)=(n:Int)+1:=aX _ Om;have hn200:=lE.1;have K2:=Ih (HL.out.old (w':=wr.alloc (cY #[cV true,cS dA (n:Nat)] 149)) ((aC _ _).alloc (aA _) _));go_wp2_with fail;go_roundg (nl-(i+1));(case measure=>have:=rD.out;omega);(case rel=>exact⟨i+1,max sl (n+1),us,_,by omega,rfl,Gn,(by refine congrArg (bL dA) ?_;first|(split<;>omega)|omega),K2.out,by omega,Mf.out,hum,uz⟩)))
    ·obtain rfl:nl=i:=Om
     as_aux_lemma=>
      (have Xq:∀l∈G.os,l.1=true→l.2<sl:=fun l hl h1=>by obtain⟨j,hj,e⟩:=aQ hl;have h:=HSJ.out j (by rw[zP.out];exact hj);rw[aN,aB hj,Option.getD_some,e]at h;exact h h1);have ZB:=Ih (HL.out.gen HG.out);have dd:=dB HL.out.box;have RI:Hid (LayK wr (wr.alloc (cY #[cS dA 0] 3)) E {G with us:=us,vu:=cT pu us.length ku} va vj 0):=Ih ⟨dX _ HL.out.box,heap_alloc_new wr _,.of ((aC _ _).alloc (aA _) _)⟩;obtain⟨fm,hfm⟩:∃fm,fm=(if many then 1 else 0:Nat):=⟨_,rfl⟩;obtain⟨fr,fI⟩:∃fr,fr=(if 0≤rv then 1 else 0:Nat):=⟨_,rfl⟩;have HFMV:=Ih hfm;have HFRV:=Ih fI;(have hfm1:fm≤1:=by rw[hfm];split<;>omega);(have hfr1:fr≤1:=by rw[fI];split<;>omega);(have ZD:Hid (∀w',O U 69 #[cV many] w' fun x gL=>x=cZ (cS dA (fm:Nat))∧w'=gL):=Ih fun w'=>by rw[hfm];exact Yt many w');(have GL:Hid (∀w' q,q=decide (0≤rv)→O U 69 #[cV q] w' fun x gL=>x=cZ (cS dA (fr:Nat))∧w'=gL):=Ih fun w' q hq=>by have:=Yt q w';rw[hq]at this⊢;rw[fI];simpa only[decide_eq_true_eq]using this);clear hfm fI Ik I3 xe Bz eS yf dJ;go_wp2_with fail;refine(RI.out.step dd ar Om Om).mono ?_;rintro y w2 ⟨rfl,n1,Ns,hk⟩;have GG:=Ih hk;have Ir:=Ih Ns;have kF:n1≤62:=Om;clear hk Ns;go_wp2_with fail;refine(GG.out.step dd cp Om Om).mono ?_;rintro y w3 ⟨rfl,n2,oN,hk⟩;have HK2:=Ih hk;have pS:=Ih oN;have eL:n2≤134:=Om;clear hk oN;go_wp2_with fail;refine(HK2.out.step dd rs Om Om).mono ?_;rintro y w4 ⟨rfl,n3,hn3,hk⟩;have HK3:=Ih hk;have YM:=Ih hn3;have hZ:n3≤146:=Om;clear hk hn3;go_wp2_with fail;refine(HK3.out.step dd sl Om Om).mono ?_;rintro y w5 ⟨rfl,n4,Ve,hk⟩;have EF:=Ih hk;have MW:=Ih Ve;have jO:n4≤347:=Om;clear hk Ve;have yf:=EF.out.fz;have y1:=EF.out.cell 1 rfl;have y2:=EF.out.cell 2 rfl;have y3:=EF.out.cell 3 rfl;have zJ:=dB EF.out.box;go_wp2_with fail;obtain⟨wz,Ev⟩:∃wz,wz=((w5.setCell ⟨G.bg,1,none⟩ (cS dA (n1:Nat))).setCell ⟨G.bg,2,none⟩ (cS dA (n2:Nat))).setCell ⟨G.bg,3,none⟩ (cS dA (n3:Nat)):=⟨_,rfl⟩
      have MZ:Hid (LayK wr wz E {G with us:=us,vu:=cT pu us.length ku,copies:=n1,result:=n2,slots:=n3} va vj n4):=Ih (by
       rw[Ev]
       exact(((EF.out.set N1 1 (cS dA (n1:Nat)) ({G with us:=us,vu:=cT pu us.length ku,copies:=n1}) rfl rfl).set N1 2 (cS dA (n2:Nat)) ({G with us:=us,vu:=cT pu us.length ku,copies:=n1,result:=n2}) rfl rfl).set N1 3 (cS dA (n3:Nat)) ({G with us:=us,vu:=cT pu us.length ku,copies:=n1,result:=n2,slots:=n3}) rfl rfl))
      rw[←Ev];clear Ev yf y1 y2 y3 zJ;refine dP (fun w'=>w'.cell? ⟨G.bg,17,none⟩=some (cV many)∧w'.cell? ⟨G.bg,20,none⟩=some (cS dA rv)∧w'.cell? ⟨G.bg,23,none⟩=some (cT qc np kq)∧w'.cell? ⟨G.bg,29,none⟩=some (cT pu us.length ku)∧G.bg<w'.heap.size) [42] [([0,1,2,3,4,5,6,7,8,9,10,13,14,15,16,17,18,19,20,23,24,25,26,27,28,29],11),([],12),([],21),([],22),([],30),([31,32,33],34),([35,36,37],38),([39,40,41],42)] [] eE Kr (fun _ _ d _ _ h=>by cases d<;>exact h) (qE.out _ _ _ _ MZ.out.drew rfl rfl rfl rfl) ?_;intro ι _ F HD HE;have fd:=HD.out;refine dL ?_;have Z0C:=0;exact V3
end
end Go.Proofs.YtfbmaffacikgbaaGreat
