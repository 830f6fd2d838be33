/- A part of the proof of EmitSays. -/
import Derived.Test.YtfbmaffacikgbaaGreatA14
set_option maxRecDepth 100000
set_option maxHeartbeats 4000000
set_option linter.unusedVariables false
set_option linter.unusedSimpArgs false
open Go renaming Calls→O
open Go.Proofs.Tryz renaming prog→U
open Nat renaming le_refl→aA,lt_of_lt_of_le→aF,le_trans→aG,zero_le→aJ
open List renaming getElem?_eq_getElem→aB,length_append→aD,getElem_mem→aE,length_map→aI,mem_singleton→aK,take_succ_eq_append_getElem→aL,length_cons→aM,length_take→aO,mem_cons_of_mem→aP,map_append→aS,length_nil→aT,mem_cons_self→aU,take_of_length_le→aY,not_mem_nil→aZ,mem_cons→bF,getElem?_map→bH,append_assoc→bP,set_cons_succ→bS,setIfInBounds_toArray→bX,mem_singleton_self→bY,set_cons_zero→bZ,replicate→cC,map_nil→cM,length_set→cQ
open Go.RowKit.Below renaming refl→aC,heap_setCell→bV
open Go.World renaming alloc_heap_new→aH,ownsRow_nil→bE,frozen?→bN,cell?_of_block→bT,setCell→cN
open Go.Lib renaming alloc_old→aR
open Go.Value renaming slice→aW,int→bL,string→cE
open Go.IntWalk renaming i64_in→aX
open Go.Proofs.Tryz renaming underlying3→bG,underlying9→bW
open And renaming intro→bM
open Go.Value renaming int→cS
open Go.Value renaming slice→cT
open Go.Value renaming string→cU
open Go.Value renaming bool→cV
open Go.Value renaming pointer→cW
open Go.Value renaming agg→cX
open Go.Obj renaming cells→cY
open Go.Ending renaming returned→cZ
open Go.IntKind renaming i64→dA
namespace Go.Proofs.YtfbmaffacikgbaaGreat
variable {w W w':World} {B r k ns i base size d bm n' bg b:Nat} {v va vj vc vr:Value} {e:TypeId} {chg:List TypeId} {l:List Int} {P:Program} {pc pr ps:Option Addr} {s:ByteArray} {x:Int}
section
open Go.RowKit Go.Shelf Ob Ty
theorem IP {E:UE} {G:GN} {n:Nat} (h:GenAt W w E G va vj) (sm:xK G) (ok:∀l∈G.os,l.1=false→l.2<12) (he:Em E ns n r w)
 (i:Nat) (hi:i<G.b.code.length) (oi:Im G (G.b.code[i])) (fL:G.b.code[i].op=3) (gZ:G.b.code[i].d.length=1) (kX:G.b.code[i].s.length=2) (hn:1≤G.b.code[i].n∧G.b.code[i].n≤12):
 O U 33 #[cW (some ⟨G.bg,0,none⟩),cS dA (i:Nat)] w fun x w'=>Step E ns n r 4 (.tuple #[]) w x w':=by have Z5r:=0;exact V107
theorem T6 {E:UE} {G:GN} {n:Nat} (h:GenAt W w E G va vj) (sm:xK G) (ok:∀l∈G.os,l.1=false→l.2<12) (he:Em E ns n r w)
 (i:Nat) (hi:i<G.b.code.length) (oi:Im G (G.b.code[i])) (fL:G.b.code[i].op=11) (gZ:G.b.code[i].d.length=0) (kX:G.b.code[i].s.length=1):
 O U 33 #[cW (some ⟨G.bg,0,none⟩),cS dA (i:Nat)] w fun x w'=>Step E ns n r 2 (.tuple #[]) w x w':=by have Z5s:=0;exact V107
def SmAt (w:World) (bm ns:Nat):Prop:=∃k D,w.ownsMap U 9 (plainElem (H:=Unit) U 3) bm k D∧∀key:List UInt8,∃j:Nat,j<ns∧D.atKey (.string key) (.lit (.int .i64 0))=.lit (.int .i64 (j:Nat))
theorem SmAt.fr (h:SmAt w bm ns) (f:EFr B chg w w'):SmAt w' bm ns:=by obtain⟨k,D,⟨es,gK,h1,h2⟩,h3⟩:=h;exact⟨k,D,⟨es,gK,f.map h1 (fun _ _ _ e=>by cases e),h2⟩,h3⟩
theorem sS (he:P.underlying e=some (.int .i64)) {b:Int} {ps:List MemPlace} (h:plainElem (H:=Unit) P e v=some (.lit (.int .i64 b),ps)):v=.int .i64 b:=by unfold plainElem at h;rw[he]at h;cases v<;>simp at h;obtain⟨⟨h1,_⟩,h2,_⟩:=h;rw[h1,h2]
theorem SmAt.look (h:SmAt w bm ns) (s:ByteArray) (hs:s.size≤9223372036854775807):∃j:Nat,j<ns∧(Instr.lookup 63 (.map (some bm)) (.string s) false).run U w=.ok (.int .i64 (j:Nat)) w:=by obtain⟨k,D,h1,h2⟩:=h;obtain⟨j,hj,jU⟩:=h2 s.data.toList;obtain⟨v,ps,Kk,hv⟩:=h1.lookup (Maps.string_keyed bW) Tryz.underlying63 (z:=.int .i64 0) Kr (plainElem_int bG De) (WideMaps.keyOf_string_mk bW (s:=s) (by unfold maxLen;omega));rw[jU]at hv;exact⟨j,hj,by rw[Kk,sS bG hv]⟩
theorem IM {E:UE} {G:GN} {n:Nat} (h:GenAt W w E G va vj) (sm:xK G) (ok:∀l∈G.os,l.1=false→l.2<12) (he:Em E ns n r w)
 (i:Nat) (hi:i<G.b.code.length) (oi:Im G (G.b.code[i])) (fL:G.b.code[i].op=6) (gZ:G.b.code[i].d.length=1) (kX:G.b.code[i].s.length=0) (xB:∃bm,E.vm=.map (some bm)∧SmAt w bm ns):
 O U 33 #[cW (some ⟨G.bg,0,none⟩),cS dA (i:Nat)] w fun x w'=>Step E ns n r 2 (.tuple #[]) w x w':=by have Z1a:=0;exact V10
theorem IOq {E:UE} {G:GN} {n:Nat} (h:GenAt W w E G va vj) (sm:xK G) (ok:∀l∈G.os,l.1=false→l.2<12) (he:Em E ns n r w)
 (i:Nat) (hi:i<G.b.code.length) (oi:Im G (G.b.code[i])) (fL:G.b.code[i].op=4) (gZ:G.b.code[i].d.length=1) (kX:G.b.code[i].s.length=0) (xB:∃bm,E.vm=.map (some bm)∧SmAt w bm ns) (hn:0≤G.b.code[i].n∧G.b.code[i].n≤1):
 O U 33 #[cW (some ⟨G.bg,0,none⟩),cS dA (i:Nat)] w fun x w'=>Step E ns n r 3 (.tuple #[]) w x w':=by have Z1b:=0;exact V10
theorem IN {E:UE} {G:GN} {n:Nat} (h:GenAt W w E G va vj) (sm:xK G) (ok:∀l∈G.os,l.1=false→l.2<12) (he:Em E ns n r w)
 (i:Nat) (hi:i<G.b.code.length) (oi:Im G (G.b.code[i])) (fL:G.b.code[i].op=5) (gZ:G.b.code[i].d.length=0) (kX:G.b.code[i].s.length=1) (xB:∃bm,E.vm=.map (some bm)∧SmAt w bm ns) (hn:0≤G.b.code[i].n∧G.b.code[i].n≤1):
 O U 33 #[cW (some ⟨G.bg,0,none⟩),cS dA (i:Nat)] w fun x w'=>Step E ns n r 3 (.tuple #[]) w x w':=by have Z1c:=0;exact V10
theorem em_le {E:UE} {n r':Nat} (h:Far E ns n r k w w') (e:Em E ns n' r' w'):n≤n':=by obtain⟨n2,r2,h1,h2,-⟩:=h;obtain⟨vc,vr,pc,kc,pr,kr,e1,e2,e3⟩:=h1.box;obtain⟨ZU,vr',pc',kc',pr',kr',e1',e2',G8⟩:=e.box;rw[e3]at G8;injection G8 with G8;injection G8 with G8 _ _;(have e4:vc=ZU:=by injection G8 with G8;injection G8 with G8 _);rw[e1,e1']at e4;injection e4 with _ e4 _;omega
theorem IQ {W w:World} {E:UE} {G:GN} {va vj:Value} {ns n r:Nat} (h:GenAt W w E G va vj) (sm:xK G) (ok:∀l∈G.os,l.1=false→l.2<12) (he:Em E ns n r w)
 (i:Nat) (hi:i<G.b.code.length) (oi:Im G (G.b.code[i])) (fL:G.b.code[i].op=2) (gZ:G.b.code[i].d.length=1) (kX:G.b.code[i].s.length=1):
 O U 33 #[cW (some ⟨G.bg,0,none⟩),cS dA (i:Nat)] w fun x w'=>Step E ns n r 3 (.tuple #[]) w x w':=by have Z5t:=0;exact V107
theorem IJ {E:UE} {G:GN} {n:Nat} (h:GenAt W w E G va vj) (sm:xK G) (ok:∀l∈G.os,l.1=false→l.2<12) (he:Em E ns n r w)
 (i:Nat) (hi:i<G.b.code.length) (oi:Im G (G.b.code[i])) (fL:G.b.code[i].op=9) (gZ:G.b.code[i].d.length=0) (kX:G.b.code[i].s.length=0) (hj:JAt w E r G.b.code.length vj) (pY:G.self<ns) (hn:0≤G.b.code[i].n∧G.b.code[i].n<G.b.code.length):
 O U 33 #[cW (some ⟨G.bg,0,none⟩),cS dA (i:Nat)] w fun x w'=>JStep W E G va ns n r 1 G.b.code.length w x w':=by have Z17:=0;exact V10
theorem T7 {W w:World} {E:UE} {G:GN} {va vj:Value} {ns n r:Nat} (h:GenAt W w E G va vj) (sm:xK G) (ok:∀l∈G.os,l.1=false→l.2<12) (he:Em E ns n r w)
 (i:Nat) (hi:i<G.b.code.length) (oi:Im G (G.b.code[i])) (fL:G.b.code[i].op=10) (gZ:G.b.code[i].d.length=0) (kX:G.b.code[i].s.length=1) (hj:JAt w E r G.b.code.length vj) (pY:G.self<ns) (hn:0≤G.b.code[i].n∧G.b.code[i].n<G.b.code.length):
 O U 33 #[cW (some ⟨G.bg,0,none⟩),cS dA (i:Nat)] w fun x w'=>JStep W E G va ns n r 2 G.b.code.length w x w':=by have Z5u:=0;exact V107
theorem T5 {E:UE} {G:GN} {n:Nat} (h:GenAt W w E G va vj) (sm:xK G) (ok:∀l∈G.os,l.1=false→l.2<12) (he:Em E ns n r w)
 (i:Nat) (hi:i<G.b.code.length) (oi:Im G (G.b.code[i])) (fL:G.b.code[i].op=12) (gZ:G.b.code[i].d.length=0) (kX:True) (gu:L3 G) (hN:G.b.code[i].s.length≤100) (sJ:G.pl.result<0→G.b.code[i].s.length≤4) (hp:G.pointer≤999):
 O U 33 #[cW (some ⟨G.bg,0,none⟩),cS dA (i:Nat)] w fun x w'=>Step E ns n r (3*G.b.code[i].s.length+G.us.length+4) (.tuple #[]) w x w':=by have Z18:=0;exact V10
theorem T3 {E:UE} {G:GN} {n:Nat} (h:GenAt W w E G va vj) (sm:xK G) (ok:∀l∈G.os,l.1=false→l.2<12) (he:Em E ns n r w)
 (i:Nat) (hi:i<G.b.code.length) (oi:Im G (G.b.code[i])) (fL:G.b.code[i].op=14) (gZ:True) (kX:True) (Tk:0<G.b.code[i].s.length) (wj:0<G.b.code[i].d.length) (oH:G.base≤n) (pY:G.self<ns) (KV:G.count≤999) (Yd:G.pl.extra≤999):
 O U 33 #[cW (some ⟨G.bg,0,none⟩),cS dA (i:Nat)] w fun x w'=>Step E ns n r 9 (.tuple #[]) w x w':=by have Z19:=0;exact V10
end
end Go.Proofs.YtfbmaffacikgbaaGreat
