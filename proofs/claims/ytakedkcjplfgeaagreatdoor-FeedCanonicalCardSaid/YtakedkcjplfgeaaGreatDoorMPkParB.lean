/- Contracts of the feed, proved. Conditions: those of each contract. -/
import Derived.Test.YtakedkcjplfgeaaGreatDoorMPkLine
import Derived.Test.YtakedkcjplfgeaaGreatDoorMPkChkB
import Derived.Test.YtakedkcjplfgeaaGreatDoorMPkLo
set_option maxRecDepth 1000000
set_option maxHeartbeats 32000000
namespace Go.Proofs.YtakedkcjplfgeaaGreatDoor
open Go.RowKit
open Frq Thr Tt Num Clk Dat Fld
theorem yF {P:Program} {fn:Func} {p u v:Tmp} {ty:TypeId} (h:fn.results= #[.cell p ty, .tmp u, .tmp v]) (tmps:Array Value) (w:World) (g:Nat) (t:TypeId) (cs:Array Value) (fr:Nat×Nat) (d:TypeDesc) (x y:Value)
  (hp:tmps.getD p undef= .pointer (some ⟨g,0,none⟩)) (hx:tmps.getD u undef=x) (hy:tmps.getD v undef=y) (hg:w.heap[g]? =some (.cells cs t fr))
  (hu:P.underlying ty=some d) (hd:(match d with| .struct _| .array _ _=>true|_=>false)=true) (hi:(P.info? ty).map (·.size)=some cs.size):
  (results fn tmps).run P w= .ok (.tuple #[.agg cs,x,y]) w:=by
 have hp':tmps[p]?.getD undef= .pointer (some ⟨g,0,none⟩):=by simpa using hp
 have hx':tmps[u]?.getD undef=x:=by simpa using hx
 have hy':tmps[v]?.getD undef=y:=by simpa using hy
 simp[results,h,hp',hx',hy',asAddr,run_loadVar_row w g t ty cs fr d hg hu hd hi]
abbrev KW (w:World) (r:Nat) (v0 v1 v2 v3 v4 v5 v6 v7 v8 v9 v10 v11 v12:Value):World:=((((((((((((w.setCell ⟨r,0,none⟩ v0).setCell ⟨r,1,none⟩ v1).setCell ⟨r,2,none⟩ v2).setCell ⟨r,3,none⟩ v3).setCell ⟨r,4,none⟩ v4).setCell ⟨r,5,none⟩ v5).setCell ⟨r,6,none⟩ v6).setCell ⟨r,7,none⟩ v7).setCell ⟨r,8,none⟩ v8).setCell ⟨r,9,none⟩ v9).setCell ⟨r,10,none⟩ v10).setCell ⟨r,11,none⟩ v11).setCell ⟨r,12,none⟩ v12
theorem VP {w:World} {r:Nat} {a0 a1 a2 a3 a4 a5 a6 a7 a8 a9 a10 a11 a12 v0 v1 v2 v3 v4 v5 v6 v7 v8 v9 v10 v11 v12:Value} {T:TypeId} (h:w.heap[r]? =some (.cells #[a0,a1,a2,a3,a4,a5,a6,a7,a8,a9,a10,a11,a12] T (0,0))):
  (KW w r v0 v1 v2 v3 v4 v5 v6 v7 v8 v9 v10 v11 v12).heap[r]? =some (.cells #[v0,v1,v2,v3,v4,v5,v6,v7,v8,v9,v10,v11,v12] T (0,0)):=by
 have h0:(w.setCell ⟨r,0,none⟩ v0).heap[r]? =some (.cells #[v0,a1,a2,a3,a4,a5,a6,a7,a8,a9,a10,a11,a12] T (0,0)):=qQ h 0 v0;have h1:((w.setCell ⟨r,0,none⟩ v0).setCell ⟨r,1,none⟩ v1).heap[r]? =some (.cells #[v0,v1,a2,a3,a4,a5,a6,a7,a8,a9,a10,a11,a12] T (0,0)):=qQ h0 1 v1;have h2:(((w.setCell ⟨r,0,none⟩ v0).setCell ⟨r,1,none⟩ v1).setCell ⟨r,2,none⟩ v2).heap[r]? =some (.cells #[v0,v1,v2,a3,a4,a5,a6,a7,a8,a9,a10,a11,a12] T (0,0)):=qQ h1 2 v2;have h3:((((w.setCell ⟨r,0,none⟩ v0).setCell ⟨r,1,none⟩ v1).setCell ⟨r,2,none⟩ v2).setCell ⟨r,3,none⟩ v3).heap[r]? =some (.cells #[v0,v1,v2,v3,a4,a5,a6,a7,a8,a9,a10,a11,a12] T (0,0)):=qQ h2 3 v3;have h4:(((((w.setCell ⟨r,0,none⟩ v0).setCell ⟨r,1,none⟩ v1).setCell ⟨r,2,none⟩ v2).setCell ⟨r,3,none⟩ v3).setCell ⟨r,4,none⟩ v4).heap[r]? =some (.cells #[v0,v1,v2,v3,v4,a5,a6,a7,a8,a9,a10,a11,a12] T (0,0)):=qQ h3 4 v4;have h5:((((((w.setCell ⟨r,0,none⟩ v0).setCell ⟨r,1,none⟩ v1).setCell ⟨r,2,none⟩ v2).setCell ⟨r,3,none⟩ v3).setCell ⟨r,4,none⟩ v4).setCell ⟨r,5,none⟩ v5).heap[r]? =some (.cells #[v0,v1,v2,v3,v4,v5,a6,a7,a8,a9,a10,a11,a12] T (0,0)):=qQ h4 5 v5;have h6:(((((((w.setCell ⟨r,0,none⟩ v0).setCell ⟨r,1,none⟩ v1).setCell ⟨r,2,none⟩ v2).setCell ⟨r,3,none⟩ v3).setCell ⟨r,4,none⟩ v4).setCell ⟨r,5,none⟩ v5).setCell ⟨r,6,none⟩ v6).heap[r]? =some (.cells #[v0,v1,v2,v3,v4,v5,v6,a7,a8,a9,a10,a11,a12] T (0,0)):=qQ h5 6 v6;have h7:((((((((w.setCell ⟨r,0,none⟩ v0).setCell ⟨r,1,none⟩ v1).setCell ⟨r,2,none⟩ v2).setCell ⟨r,3,none⟩ v3).setCell ⟨r,4,none⟩ v4).setCell ⟨r,5,none⟩ v5).setCell ⟨r,6,none⟩ v6).setCell ⟨r,7,none⟩ v7).heap[r]? =some (.cells #[v0,v1,v2,v3,v4,v5,v6,v7,a8,a9,a10,a11,a12] T (0,0)):=qQ h6 7 v7;have h8:(((((((((w.setCell ⟨r,0,none⟩ v0).setCell ⟨r,1,none⟩ v1).setCell ⟨r,2,none⟩ v2).setCell ⟨r,3,none⟩ v3).setCell ⟨r,4,none⟩ v4).setCell ⟨r,5,none⟩ v5).setCell ⟨r,6,none⟩ v6).setCell ⟨r,7,none⟩ v7).setCell ⟨r,8,none⟩ v8).heap[r]? =some (.cells #[v0,v1,v2,v3,v4,v5,v6,v7,v8,a9,a10,a11,a12] T (0,0)):=qQ h7 8 v8;have h9:((((((((((w.setCell ⟨r,0,none⟩ v0).setCell ⟨r,1,none⟩ v1).setCell ⟨r,2,none⟩ v2).setCell ⟨r,3,none⟩ v3).setCell ⟨r,4,none⟩ v4).setCell ⟨r,5,none⟩ v5).setCell ⟨r,6,none⟩ v6).setCell ⟨r,7,none⟩ v7).setCell ⟨r,8,none⟩ v8).setCell ⟨r,9,none⟩ v9).heap[r]? =some (.cells #[v0,v1,v2,v3,v4,v5,v6,v7,v8,v9,a10,a11,a12] T (0,0)):=qQ h8 9 v9;have h10:(((((((((((w.setCell ⟨r,0,none⟩ v0).setCell ⟨r,1,none⟩ v1).setCell ⟨r,2,none⟩ v2).setCell ⟨r,3,none⟩ v3).setCell ⟨r,4,none⟩ v4).setCell ⟨r,5,none⟩ v5).setCell ⟨r,6,none⟩ v6).setCell ⟨r,7,none⟩ v7).setCell ⟨r,8,none⟩ v8).setCell ⟨r,9,none⟩ v9).setCell ⟨r,10,none⟩ v10).heap[r]? =some (.cells #[v0,v1,v2,v3,v4,v5,v6,v7,v8,v9,v10,a11,a12] T (0,0)):=qQ h9 10 v10;have h11:((((((((((((w.setCell ⟨r,0,none⟩ v0).setCell ⟨r,1,none⟩ v1).setCell ⟨r,2,none⟩ v2).setCell ⟨r,3,none⟩ v3).setCell ⟨r,4,none⟩ v4).setCell ⟨r,5,none⟩ v5).setCell ⟨r,6,none⟩ v6).setCell ⟨r,7,none⟩ v7).setCell ⟨r,8,none⟩ v8).setCell ⟨r,9,none⟩ v9).setCell ⟨r,10,none⟩ v10).setCell ⟨r,11,none⟩ v11).heap[r]? =some (.cells #[v0,v1,v2,v3,v4,v5,v6,v7,v8,v9,v10,v11,a12] T (0,0)):=qQ h10 11 v11;have h12:(((((((((((((w.setCell ⟨r,0,none⟩ v0).setCell ⟨r,1,none⟩ v1).setCell ⟨r,2,none⟩ v2).setCell ⟨r,3,none⟩ v3).setCell ⟨r,4,none⟩ v4).setCell ⟨r,5,none⟩ v5).setCell ⟨r,6,none⟩ v6).setCell ⟨r,7,none⟩ v7).setCell ⟨r,8,none⟩ v8).setCell ⟨r,9,none⟩ v9).setCell ⟨r,10,none⟩ v10).setCell ⟨r,11,none⟩ v11).setCell ⟨r,12,none⟩ v12).heap[r]? =some (.cells #[v0,v1,v2,v3,v4,v5,v6,v7,v8,v9,v10,v11,v12] T (0,0)):=qQ h11 12 v12;exact h12
theorem Ej {w a:World} (h:Bl w a) {r:Nat} (hr:w.heap.size<=r) {v0 v1 v2 v3 v4 v5 v6 v7 v8 v9 v10 v11 v12:Value}:Bl w (KW a r v0 v1 v2 v3 v4 v5 v6 v7 v8 v9 v10 v11 v12):=
 zF (zF (zF (zF (zF (zF (zF (zF (zF (zF (zF (zF (zF h hr _) hr _) hr _) hr _) hr _) hr _) hr _) hr _) hr _) hr _) hr _) hr _) hr _
abbrev Kr:Array Value:= #[.slice none 0 0, .slice none 0 0, .slice none 0 0, .slice none 0 0, .slice none 0 0, .slice none 0 0, .slice none 0 0, .slice none 0 0, .slice none 0 0, .slice none 0 0, .int .i64 0, .int .i64 0, .int .i64 0]
theorem Rl {w:World} {r:Nat} {v0 v1 v2 v3 v4 v5 v6 v7 v8 v9 v10 v11 v12:Value}:Gr r w (KW w r v0 v1 v2 v3 v4 v5 v6 v7 v8 v9 v10 v11 v12):=
 qJ (qJ (qJ (qJ (qJ (qJ (qJ (qJ (qJ (qJ (qJ (qJ (zH r w 0 _) (zH r _ 1 _)) (zH r _ 2 _)) (zH r _ 3 _)) (zH r _ 4 _)) (zH r _ 5 _)) (zH r _ 6 _)) (zH r _ 7 _)) (zH r _ 8 _)) (zH r _ 9 _)) (zH r _ 10 _)) (zH r _ 11 _)) (zH r _ 12 _)
theorem nT {own own':Nat->Nat} {w0 w w':World} (h0:Bl w0 w) (h:Mv own w own' w') (hl: ∀ b,b<w0.heap.size->own b=97):Bl w0 w':=
 ⟨h.os.trans h0.os,h.tape.trans h0.tape,h.output.trans h0.output,Nat.le_trans h0.size h.size,fun b hb=>(h.block b (by have:=h0.size;omega) (.inl (hl b hb))).trans (h0.block b hb)⟩
theorem Jk (B:Nat):lJ B YV []:=IW B _ (by simp[YV])
theorem mX (txt:ByteArray) (hs:txt.size<=4294967280) (m:Int) (t:TtD) (n e:Int) (H:Hid (vC txt.data.toList=(t,n,e))) (w:World) (env:ah m w):
  Calls Tryz.prog 10 #[.string txt] w fun q w'=> ∃ V ts,q= .returned (.tuple #[JP V t, .int .i64 n, .int .i64 e])/\yA w'.heap.size w' V ts t/\(ZZ t/\lJ w.heap.size V ts)/\Bl w w':=by
 obtain⟨⟨ls,e0⟩,hl⟩: ∃ p,vT txt.data.toList=p:=⟨_,rfl⟩;have hlc:=fun W hW=>Lm txt hs m ls e0 (qA hl) W hW
 have HR0:=qA (heap_alloc_new w (.cells Kr 36));have hb0:Bl w (w.alloc (.cells Kr 36)):=qE (qB w) _;have HB0:=qA hb0;have ml0:(w.alloc (.cells Kr 36)).cell? ⟨1,0,none⟩=some (.int .i64 m):=(env.bl hb0).ml;have hlc0:=hlc _ ml0;have HE:=qA env;have HLS:=qA hl;have hz:(w.alloc (.cells Kr 36)).heap.size=w.heap.size+1:=by simp
 have HZ:=qA hz;clear hb0 hlc ml0 env hl hz;by_cases he0:e0=0
 ·
  subst he0;obtain⟨⟨sF,nF,eF⟩,hF⟩: ∃ p,yz Tt.start 1 ls=p:=⟨_,rfl⟩;have HF:=qA hF;have hsz:=uA HLS.out;have HSZ:=qA hsz;clear hF hsz;go_enter Tryz.func10,Tryz.ntmps10
  go_wp2_with (go_at_call 19;refine hlc0.mono ?_)
  rintro y1 w1 ⟨v1,rfl,o1,b1⟩;obtain⟨av,cv,rfl,q1,q2⟩:=o1.val;have O1:=qA o1;have R1:=qA (qX HR0.out b1);have B1:=qA (qF HB0.out b1);have E1:=qA (HE.out.bl B1.out);have hmm:= @run_makeMap Tryz.prog;have hs1:w.heap.size<w1.heap.size:=by have:=b1.size;have:=HZ.out;omega
  obtain⟨wg,hwg⟩: ∃ wg,((((w1.alloc (.map #[] 0)).alloc (.map #[] 0)).alloc (.map #[] 0)).alloc (.map #[] 0)).alloc (.cells (pC (.slice none 0 0) 0 (fun _=> .slice none 0 0) emptyT.fares (BP w1.heap.size (w1.heap.size+1) (w1.heap.size+2) (w1.heap.size+3)) 0 false) 76)=wg:=⟨_,rfl⟩;have bg:Bl w1 wg:=by rw[<-hwg];exact qE (qE (qE (qE (qE (qB _) _) _) _) _) _
  have FG:Hid (Eb w1.heap.size (w1.heap.size+4) 0 m (BP w1.heap.size (w1.heap.size+1) (w1.heap.size+2) (w1.heap.size+3)) (uM (w1.heap.size+4) (BP w1.heap.size (w1.heap.size+1) (w1.heap.size+2) (w1.heap.size+3))) Tt.start wg):=
   Cf w1.heap.size (w1.heap.size+4) m _ wg (by rw[<-hwg];have:=heap_alloc_new ((((w1.alloc (.map #[] 0)).alloc (.map #[] 0)).alloc (.map #[] 0)).alloc (.map #[] 0)) (.cells (pC (.slice none 0 0) 0 (fun _=> .slice none 0 0) emptyT.fares (BP w1.heap.size (w1.heap.size+1) (w1.heap.size+2) (w1.heap.size+3)) 0 false) 76);rw[show((((w1.alloc (.map #[] 0)).alloc (.map #[] 0)).alloc (.map #[] 0)).alloc (.map #[] 0)).heap.size=w1.heap.size+4 by simp]at this;exact this)
    (by rw[<-hwg];exact Ce rfl w1.heap.size (Nat.le_refl _) _ _) (Oo _) (E1.out.bl bg) (by omega) E1.out.lt
  obtain⟨mb,hmb⟩: ∃ mb,BP w1.heap.size (w1.heap.size+1) (w1.heap.size+2) (w1.heap.size+3)=mb:=⟨_,rfl⟩;have HM:Hid (∀ j,j<4->w1.heap.size<=mb j):=fun j hj=>by
   rw[<-hmb];rcases j with _|_|_|_|j
   all_goals first
    |(show w1.heap.size<=w1.heap.size;omega)
    |(show w1.heap.size<=w1.heap.size+1;omega)
    |(show w1.heap.size<=w1.heap.size+2;omega)
    |(show w1.heap.size<=w1.heap.size+3;omega)
    |omega
  obtain⟨own,hown⟩: ∃ own,uM (w1.heap.size+4) mb=own:=⟨_,rfl⟩;have HLOW:Hid (∀ b,b<w1.heap.size->own b=97):=fun b hb=>by rw[<-hown];exact Xv (by omega) HM.out hb
  rw[hmb,hown]at FG;simp only[pC,BP,emptyT]at hwg;go_wp2_with fail;have BG:=qA bg;clear hwg hmb hown bg b1 o1 hlc0 hmm;go_loopw [30] (fun i wr=> ∃ (k:Nat) (s:St) (own':Nat->Nat),(k<=ls.length/\i= .int .i64 k)/\Hid (Eb w1.heap.size (w1.heap.size+4) k m mb own' s wr)/\Hid (AU s)/\Hid (yz s (1+(k:Int)) (ls.drop k)=(sF,nF,eF))/\Hid (Mv own wg own' wr)) (fun i _=>ls.length-(intOf i).toNat)
  case atStart=>exact⟨0,_,own,⟨Nat.zero_le _,rfl⟩,FG,tZ _,HF,Mv.refl own wg⟩
  case round=>
   obtain⟨k,s,own',⟨hk,rfl⟩,HS,HK,HC,HMV⟩:=hrel;have hkN:k<=999999:=by have:=HSZ.out.1;omega
   have MG:=qA (show Bl w1 wr from nT BG.out HMV.out HLOW.out);have hwr:=MG.out.size;have Rr:=qA (qX R1.out MG.out);have Br:=qA (qF B1.out MG.out);by_cases hlt:k<ls.length
   ·
    obtain⟨x,hx⟩: ∃ x,ls[k]? =some x:=⟨_,List.getElem?_eq_getElem hlt⟩;obtain⟨pb,po,pc,e1,l1,l2,l3,hc⟩:=O1.out.open (by omega);rw[Value.slice.injEq]at e1;obtain⟨rfl,-,rfl⟩:=e1;have c1:wr.cell? ⟨pb,po+k,none⟩=some (qP x):=by
     have:=hc k x hx 0 _ rfl;rw[show po+k*1+0=po+k by omega]at this;exact((qG MG.out).1 _ _ l3).trans this
    have i1:(k:Int)<(ls.length:Int):=by omega
    have hxl:x.length<=131072:=by have:=HSZ.out.2 x (List.mem_of_getElem? hx);omega
    obtain⟨⟨s2,E⟩,hE⟩: ∃ p,vN s x ((k:Int)+1)=p:=⟨_,rfl⟩;have hline:=I9 w1.heap.size (w1.heap.size+4) k m mb own' s x hxl ((k:Int)+1) s2 E (qA hE) hkN wr HS.out;have hE':vN s x (1+(k:Int))=(s2,E):=by rw[Int.add_comm];exact hE
    have HEE:=qA hE';have HX:=qA hx;clear hE hE' hx hc;by_cases h0:E=0
    ·
     subst h0;have HN:=qA (nM (s:=s) (n:=1+(k:Int)) HX.out (by rw[HEE.out]));go_wp2_with (go_at_call 20;refine hline.mono ?_)
     rintro y2 w2 ⟨rfl,own2,F2,M2⟩;have HF2:=qA F2;have HM2:=qA (HMV.out.trans M2);clear F2 M2;go_wp2;go_roundw;case rel=>
      refine⟨k+1,s2,own2,⟨by omega,by go_num⟩,HF2, ?_, ?_,HM2⟩
      ·
       have:=tY HK.out x (n:=1+(k:Int)) (by omega);rw[HEE.out]at this;exact this
      ·
       show _=_
       rw[<-HC.out,HN.out,HEE.out,show 1+((k+1:Nat):Int)=1+(k:Int)+1 by omega]
     case measure=>simp[intOf];omega
    ·
     have HN:=qA (nN (s:=s) (n:=1+(k:Int)) HX.out (by rw[HEE.out];exact h0));have HQ:=qA (show(s,1+(k:Int),E)=(sF,nF,eF) by rw[<-HC.out,HN.out,HEE.out]);have f0:(E != 0)=true:=by rw[bne_iff_ne];exact h0
     have HP:=qA (show(emptyT,(k:Int)+1,E)=(t,n,e) by
      obtain⟨e1,e2⟩:=Prod.mk.inj HQ.out;obtain⟨e3,e4⟩:=Prod.mk.inj e2;rw[<-H.out,uQ HLS.out HF.out (by rw[<-e4];exact h0),<-e3,<-e4,Int.add_comm])
     obtain⟨d1,d2⟩:=Prod.mk.inj HP.out;obtain⟨d3,d4⟩:=Prod.mk.inj d2;clear HP HQ HN d2 H;subst d1 d3 d4;go_wp2_with (go_at_call 20;refine hline.mono ?_)
     rintro y2 w2 ⟨rfl,own2,F2,M2⟩;have M3:=qA (show Bl w1 w2 from nT BG.out (HMV.out.trans M2) HLOW.out);have R2:=qA (qX R1.out M3.out);have B2:=qA (qF B1.out M3.out);clear F2 M2;have rf:=Lib.frozen_of_heap R2.out;have j0:=qC R2.out 0 _ rfl;have j1:=qC R2.out 1 _ rfl;have j2:=qC R2.out 2 _ rfl;have j3:=qC R2.out 3 _ rfl;have j4:=qC R2.out 4 _ rfl;have j5:=qC R2.out 5 _ rfl;have j6:=qC R2.out 6 _ rfl;have j7:=qC R2.out 7 _ rfl;have j8:=qC R2.out 8 _ rfl;have j9:=qC R2.out 9 _ rfl;have j10:=qC R2.out 10 _ rfl;have j11:=qC R2.out 11 _ rfl;have j12:=qC R2.out 12 _ rfl;go_wp2;refine bodyPost_ret (yF rfl _ _ w.heap.size 36 _ (0,0) _ _ _ rfl rfl rfl (VP R2.out) Tryz.underlying36 rfl (by kernel_rfl)) rfl ?_;exact⟨YV,[],rfl,Jm _ _,⟨Jl,Jk _⟩,Ej B2.out (Nat.le_refl _)⟩
   ·
    have hdr:ls.drop k=[]:=List.drop_eq_nil_of_le (by omega);have HQ:=qA (show(s,(0:Int),(0:Int))=(sF,nF,eF) by rw[<-HC.out,hdr];rfl);obtain⟨d1,d2⟩:=Prod.mk.inj HQ.out;obtain⟨d3,d4⟩:=Prod.mk.inj d2;clear HQ HC hdr d2;subst d1 d3 d4;obtain⟨⟨p,i,ec⟩,hck⟩: ∃ q,Qj s.t=q:=⟨_,rfl⟩;obtain⟨u,e9,vs,ts,ids,fa,pts,-⟩:=HS.out.mem;have rd:=pts.rd;obtain⟨a0,c0,(f0:vs 0=_),-,-⟩:=rd.stops.val;obtain⟨a1,c1,(f1:vs 1=_),-,-⟩:=rd.routes.val;obtain⟨a2,c2,(f2:vs 2=_),-,-⟩:=rd.cals.val;obtain⟨a3,c3,(f3:vs 3=_),-,-⟩:=rd.excs.val;obtain⟨a4,c4,(f4:vs 4=_),-,-⟩:=rd.trips.sl.val;obtain⟨a5,c5,(f5:vs 5=_),-,-⟩:=rd.freqs.val;obtain⟨a6,c6,(f6:vs 6=_),-,-⟩:=rd.thrus.val;obtain⟨a7,c7,(f7:vs 7=_),-,-⟩:=rd.guars.val;obtain⟨a8,c8,(f8:vs 8=_),-,-⟩:=rd.paths.val;obtain⟨a9,c9,(f9:vs 9=_),-,-⟩:=rd.prods.val;simp only[List.length_map]at f5 f6;have HRD:=qA (show yA wr.heap.size wr ⟨.slice a0 s.t.stops.length c0, .slice a1 s.t.routes.length c1, .slice a2 s.t.cals.length c2, .slice a3 s.t.excs.length c3, .slice a4 ts.length c4, .slice a5 s.t.freqs.length c5, .slice a6 s.t.thrus.length c6, .slice a7 s.t.guars.length c7, .slice a8 s.t.paths.length c8, .slice a9 s.t.fares.prods.length c9⟩ ts s.t by rw[<-f0,<-f1,<-f2,<-f3,<-f4,<-f5,<-f6,<-f7,<-f8,<-f9];exact rd);have x0:wr.cell? ⟨w1.heap.size+4,2,none⟩=some (.slice a0 s.t.stops.length c0):=by rw[<-f0];exact qC fa 2 _ rfl
    have x1:wr.cell? ⟨w1.heap.size+4,3,none⟩=some (.slice a1 s.t.routes.length c1):=by rw[<-f1];exact qC fa 3 _ rfl
    have x2:wr.cell? ⟨w1.heap.size+4,4,none⟩=some (.slice a2 s.t.cals.length c2):=by rw[<-f2];exact qC fa 4 _ rfl
    have x3:wr.cell? ⟨w1.heap.size+4,5,none⟩=some (.slice a3 s.t.excs.length c3):=by rw[<-f3];exact qC fa 5 _ rfl
    have x4:wr.cell? ⟨w1.heap.size+4,6,none⟩=some (.slice a4 ts.length c4):=by rw[<-f4];exact qC fa 6 _ rfl
    have x5:wr.cell? ⟨w1.heap.size+4,7,none⟩=some (.slice a5 s.t.freqs.length c5):=by rw[<-f5];exact qC fa 7 _ rfl
    have x6:wr.cell? ⟨w1.heap.size+4,8,none⟩=some (.slice a6 s.t.thrus.length c6):=by rw[<-f6];exact qC fa 8 _ rfl
    have x7:wr.cell? ⟨w1.heap.size+4,9,none⟩=some (.slice a7 s.t.guars.length c7):=by rw[<-f7];exact qC fa 9 _ rfl
    have x8:wr.cell? ⟨w1.heap.size+4,10,none⟩=some (.slice a8 s.t.paths.length c8):=by rw[<-f8];exact qC fa 10 _ rfl
    have x9:wr.cell? ⟨w1.heap.size+4,11,none⟩=some (.slice a9 s.t.fares.prods.length c9):=by rw[<-f9];exact qC fa 11 _ rfl
    have x10:wr.cell? ⟨w1.heap.size+4,12,none⟩=some (.int .i64 s.t.fares.disc):=qC fa 12 _ rfl;have x11:wr.cell? ⟨w1.heap.size+4,13,none⟩=some (.int .i64 s.t.fares.within):=qC fa 13 _ rfl;have x12:wr.cell? ⟨w1.heap.size+4,14,none⟩=some (.int .i64 s.t.fares.cap):=qC fa 14 _ rfl;have hgl:=lt_of_block fa;have hcheck:=pY ⟨.slice a0 s.t.stops.length c0, .slice a1 s.t.routes.length c1, .slice a2 s.t.cals.length c2, .slice a3 s.t.excs.length c3, .slice a4 ts.length c4, .slice a5 s.t.freqs.length c5, .slice a6 s.t.thrus.length c6, .slice a7 s.t.guars.length c7, .slice a8 s.t.paths.length c8, .slice a9 s.t.fares.prods.length c9⟩ ts s.t p i ec (qA hck) (qA HS.out.ok) wr.heap.size wr HRD.out (Nat.le_refl _);have FA:=qA fa;have PT:=qA pts;have HCK:=qA hck;have HV:=qA (show vs 0= .slice a0 s.t.stops.length c0/\vs 1= .slice a1 s.t.routes.length c1/\vs 2= .slice a2 s.t.cals.length c2/\vs 3= .slice a3 s.t.excs.length c3/\vs 4= .slice a4 ts.length c4/\vs 5= .slice a5 s.t.freqs.length c5/\vs 6= .slice a6 s.t.thrus.length c6/\vs 7= .slice a7 s.t.guars.length c7/\vs 8= .slice a8 s.t.paths.length c8/\vs 9= .slice a9 s.t.fares.prods.length c9 from⟨f0,f1,f2,f3,f4,f5,f6,f7,f8,f9⟩);clear hck fa pts rd f0 f1 f2 f3 f4 f5 f6 f7 f8 f9;simp only[JP]at hcheck;have HPR:=qA ((uP HLS.out HF.out HCK.out).symm.trans H.out);clear H;by_cases hec:ec=0
    ·
     subst hec;have HQ:=qA (show(s.t,(0:Int),(0:Int))=(t,n,e) by rw[<-HPR.out,if_pos rfl]);obtain⟨d1,d2⟩:=Prod.mk.inj HQ.out;obtain⟨d3,d4⟩:=Prod.mk.inj d2;clear HQ HPR d2;subst d1 d3 d4;go_wp2_with (go_at_call 21;refine hcheck.mono ?_)
     rintro y2 w2 ⟨rfl,b2⟩;have R2:=qA (qX Rr.out b2);have B2:=qA (qF Br.out b2);have P2:=qA (PT.out.bl b2);have y0:=((qG b2).1 _ _ hgl).trans x0;have y1:=((qG b2).1 _ _ hgl).trans x1;have y2:=((qG b2).1 _ _ hgl).trans x2;have y3:=((qG b2).1 _ _ hgl).trans x3;have y4:=((qG b2).1 _ _ hgl).trans x4;have y5:=((qG b2).1 _ _ hgl).trans x5;have y6:=((qG b2).1 _ _ hgl).trans x6;have y7:=((qG b2).1 _ _ hgl).trans x7;have y8:=((qG b2).1 _ _ hgl).trans x8;have y9:=((qG b2).1 _ _ hgl).trans x9;have y10:=((qG b2).1 _ _ hgl).trans x10;have y11:=((qG b2).1 _ _ hgl).trans x11;have y12:=((qG b2).1 _ _ hgl).trans x12;clear b2 x0 x1 x2 x3 x4 x5 x6 x7 x8 x9 x10 x11 x12;have rf:=Lib.frozen_of_heap R2.out;have j0:=qC R2.out 0 _ rfl;have j1:=qC R2.out 1 _ rfl;have j2:=qC R2.out 2 _ rfl;have j3:=qC R2.out 3 _ rfl;have j4:=qC R2.out 4 _ rfl;have j5:=qC R2.out 5 _ rfl;have j6:=qC R2.out 6 _ rfl;have j7:=qC R2.out 7 _ rfl;have j8:=qC R2.out 8 _ rfl;have j9:=qC R2.out 9 _ rfl;have j10:=qC R2.out 10 _ rfl;have j11:=qC R2.out 11 _ rfl;have j12:=qC R2.out 12 _ rfl;go_wp2;refine bodyPost_ret (yF rfl _ _ w.heap.size 36 _ (0,0) _ _ _ rfl rfl rfl (VP R2.out) Tryz.underlying36 rfl (by kernel_rfl)) rfl ?_;refine⟨⟨.slice a0 s.t.stops.length c0, .slice a1 s.t.routes.length c1, .slice a2 s.t.cals.length c2, .slice a3 s.t.excs.length c3, .slice a4 ts.length c4, .slice a5 s.t.freqs.length c5, .slice a6 s.t.thrus.length c6, .slice a7 s.t.guars.length c7, .slice a8 s.t.paths.length c8, .slice a9 s.t.fares.prods.length c9⟩,ts,rfl, ?_,⟨HS.out.ok, ?_⟩,Ej B2.out (Nat.le_refl _)⟩;have hl9:own' w.heap.size=97:=(HMV.out.lab _ (by have:=BG.out.size;omega)).trans (HLOW.out _ hs1);have key: ∀ W,Gr w.heap.size w2 W->yA W.heap.size W ⟨.slice a0 s.t.stops.length c0, .slice a1 s.t.routes.length c1, .slice a2 s.t.cals.length c2, .slice a3 s.t.excs.length c3, .slice a4 ts.length c4, .slice a5 s.t.freqs.length c5, .slice a6 s.t.thrus.length c6, .slice a7 s.t.guars.length c7, .slice a8 s.t.paths.length c8, .slice a9 s.t.fares.prods.length c9⟩ ts s.t:=fun W hg=>by
      have P3:=P2.out.kept hg (fun b hb=>by simp only[Option.some.injEq]at hb;rw[<-hb,hl9];omega);have r3:=P3.rd;obtain⟨f0,f1,f2,f3,f4,f5,f6,f7,f8,f9⟩:=HV.out;rw[f0,f1,f2,f3,f4,f5,f6,f7,f8,f9]at r3;exact r3
     · exact key _ Rl
     have r3:=P2.out.lo;obtain⟨f0,f1,f2,f3,f4,f5,f6,f7,f8,f9⟩:=HV.out;rw[f0,f1,f2,f3,f4,f5,f6,f7,f8,f9]at r3;exact r3.le (Nat.le_of_lt hs1)
    ·
     have f1:(ec==0)=false:=by rw[beq_eq_false_iff_ne];exact hec
     have HQ:=qA (show(if i<0 then(emptyT,s.rules,ec)else(emptyT,(s.lines.getD p.toNat []).getD i.toNat 0,ec))=(t,n,e) by rw[<-HPR.out,if_neg hec]);clear HPR;by_cases hi:i<0
     ·
      have HQ2:=qA (show(emptyT,s.rules,ec)=(t,n,e) by rw[<-HQ.out,if_pos hi]);obtain⟨d1,d2⟩:=Prod.mk.inj HQ2.out;obtain⟨d3,d4⟩:=Prod.mk.inj d2;clear HQ HQ2 d2;subst d1 d3 d4;go_wp2_with (go_at_call 21;refine hcheck.mono ?_)
      rintro y2 w2 ⟨rfl,b2⟩;have R2:=qA (qX Rr.out b2);have B2:=qA (qF Br.out b2);have y29:w2.cell? ⟨w1.heap.size+4,29,none⟩=some (.int .i64 s.rules):=((qG b2).1 _ _ hgl).trans (qC FA.out 29 _ rfl);clear b2 x0 x1 x2 x3 x4 x5 x6 x7 x8 x9 x10 x11 x12;have rf:=Lib.frozen_of_heap R2.out;have j0:=qC R2.out 0 _ rfl;have j1:=qC R2.out 1 _ rfl;have j2:=qC R2.out 2 _ rfl;have j3:=qC R2.out 3 _ rfl;have j4:=qC R2.out 4 _ rfl;have j5:=qC R2.out 5 _ rfl;have j6:=qC R2.out 6 _ rfl;have j7:=qC R2.out 7 _ rfl;have j8:=qC R2.out 8 _ rfl;have j9:=qC R2.out 9 _ rfl;have j10:=qC R2.out 10 _ rfl;have j11:=qC R2.out 11 _ rfl;have j12:=qC R2.out 12 _ rfl;go_wp2_with fail;go_region
      have RF:(KW w2 w.heap.size (.slice none 0 0) (.slice none 0 0) (.slice none 0 0) (.slice none 0 0) (.slice none 0 0) (.slice none 0 0) (.slice none 0 0) (.slice none 0 0) (.slice none 0 0) (.slice none 0 0) (.int .i64 0) (.int .i64 0) (.int .i64 0)).heap[w.heap.size]? =some (.cells Kr 36 (0,0)):=VP R2.out;have BF:Bl w (KW w2 w.heap.size (.slice none 0 0) (.slice none 0 0) (.slice none 0 0) (.slice none 0 0) (.slice none 0 0) (.slice none 0 0) (.slice none 0 0) (.slice none 0 0) (.slice none 0 0) (.slice none 0 0) (.int .i64 0) (.int .i64 0) (.int .i64 0)):=Ej B2.out (Nat.le_refl _);obtain⟨WF,hWF⟩: ∃ WF,WF=KW w2 w.heap.size (.slice none 0 0) (.slice none 0 0) (.slice none 0 0) (.slice none 0 0) (.slice none 0 0) (.slice none 0 0) (.slice none 0 0) (.slice none 0 0) (.slice none 0 0) (.slice none 0 0) (.int .i64 0) (.int .i64 0) (.int .i64 0):=⟨_,rfl⟩;rw[<-hWF]at RF BF;dsimp only[KW]at hWF
      rw[<-hWF];have HRF:=qA RF;have HBF:=qA BF;clear hWF RF BF rf j0 j1 j2 j3 j4 j5 j6 j7 j8 j9 j10 j11 j12 y29;go_wp2_with fail;refine bodyPost_ret (yF rfl _ WF.drew w.heap.size 36 Kr (0,0) _ _ _ rfl rfl rfl HRF.out Tryz.underlying36 rfl (by kernel_rfl)) rfl ?_;exact⟨YV,[],rfl,Jm _ _,⟨Jl,Jk _⟩,qH HBF.out⟩
     ·
      have HQ2:=qA (show(emptyT,(s.lines.getD p.toNat []).getD i.toNat 0,ec)=(t,n,e) by rw[<-HQ.out,if_neg hi]);obtain⟨d1,d2⟩:=Prod.mk.inj HQ2.out;obtain⟨d3,d4⟩:=Prod.mk.inj d2;rcases OE HK.out HCK.out hec with hneg|⟨q,j,rfl,hq,rfl,hj⟩
      · exact absurd hneg hi
      have hli:=PT.out.lns hq;simp only[Int.toNat_natCast]at d3;obtain⟨pq,oq,cq,eq,k1,k2,k3,hcq⟩:=hli.open (by show 0<(qN s q).length;unfold qN;omega);have hjl:j<(qN s q).length:=hj;have hpq:pq≠w.heap.size:=fun e=>by
       have h1:=PT.out.lab (q+10) (by omega) pq (by rw[eq];rfl);have h2:own' w.heap.size=97:=(HMV.out.lab _ (by have:=BG.out.size;omega)).trans (HLOW.out _ hs1);rw[e,h2]at h1;omega
      have hcell:wr.cell? ⟨pq,oq+j,none⟩=some (.int .i64 n):=by
       have:=hcq j _ (List.getElem?_eq_getElem hjl) 0 _ rfl;rw[show oq+j*1+0=oq+j by omega]at this;rw[this,<-d3];have hn:(s.lines.getD q []).getD j 0=(qN s q)[j]'hjl:=by
        show(qN s q).getD j 0=_
        rw[List.getD_eq_getElem?_getD,List.getElem?_eq_getElem hjl];rfl
       rw[hn]
      obtain⟨nl,hnl⟩: ∃ nl,(qN s q).length=nl:=⟨_,rfl⟩;have hrow:wr.cell? ⟨w1.heap.size+4,19+q,none⟩=some (.slice (some ⟨pq,oq,none⟩) nl cq):=by
       rw[<-hnl,<-eq];have:=qC FA.out (KR (q+10)) _ (uN _ _ _ _ _ _ _ (by omega));rw[show KR (q+10)=19+q by unfold KR;rw[if_neg (by omega)];omega]at this;exact this
      rw[hnl]at hjl;have jn:(j:Int)<(nl:Int):=by omega
      clear HQ HQ2 d2 d3 hli hcq hj eq hnl;subst d1 d4;go_wp2_with (go_at_call 21;refine hcheck.mono ?_)
      first
       |(intro y2 w2 hy2 b2;subst hy2)
       |rintro y2 w2 ⟨rfl,b2⟩
      have R2:=qA (qX Rr.out b2);have B2:=qA (qF Br.out b2);have yr:=((qG b2).1 _ _ hgl).trans hrow;have yc:=((qG b2).1 _ _ k3).trans hcell;clear b2 hrow hcell x0 x1 x2 x3 x4 x5 x6 x7 x8 x9 x10 x11 x12;have rf:=Lib.frozen_of_heap R2.out;have j0:=qC R2.out 0 _ rfl;have j1:=qC R2.out 1 _ rfl;have j2:=qC R2.out 2 _ rfl;have j3:=qC R2.out 3 _ rfl;have j4:=qC R2.out 4 _ rfl;have j5:=qC R2.out 5 _ rfl;have j6:=qC R2.out 6 _ rfl;have j7:=qC R2.out 7 _ rfl;have j8:=qC R2.out 8 _ rfl;have j9:=qC R2.out 9 _ rfl;have j10:=qC R2.out 10 _ rfl;have j11:=qC R2.out 11 _ rfl;have j12:=qC R2.out 12 _ rfl;obtain rfl|rfl|rfl|rfl|rfl|rfl|rfl|rfl|rfl|rfl:q=0∨q=1∨q=2∨q=3∨q=4∨q=5∨q=6∨q=7∨q=8∨q=9:=by omega
      all_goals
       go_wp2_with fail;go_region
       have RF:(KW w2 w.heap.size (.slice none 0 0) (.slice none 0 0) (.slice none 0 0) (.slice none 0 0) (.slice none 0 0) (.slice none 0 0) (.slice none 0 0) (.slice none 0 0) (.slice none 0 0) (.slice none 0 0) (.int .i64 0) (.int .i64 0) (.int .i64 0)).heap[w.heap.size]? =some (.cells Kr 36 (0,0)):=VP R2.out;have BF:Bl w (KW w2 w.heap.size (.slice none 0 0) (.slice none 0 0) (.slice none 0 0) (.slice none 0 0) (.slice none 0 0) (.slice none 0 0) (.slice none 0 0) (.slice none 0 0) (.slice none 0 0) (.slice none 0 0) (.int .i64 0) (.int .i64 0) (.int .i64 0)):=Ej B2.out (Nat.le_refl _);obtain⟨WF,hWF⟩: ∃ WF,WF=KW w2 w.heap.size (.slice none 0 0) (.slice none 0 0) (.slice none 0 0) (.slice none 0 0) (.slice none 0 0) (.slice none 0 0) (.slice none 0 0) (.slice none 0 0) (.slice none 0 0) (.slice none 0 0) (.int .i64 0) (.int .i64 0) (.int .i64 0):=⟨_,rfl⟩;rw[<-hWF]at RF BF;dsimp only[KW]at hWF
       rw[<-hWF];have HRF:=qA RF;have HBF:=qA BF;clear hWF RF BF rf j0 j1 j2 j3 j4 j5 j6 j7 j8 j9 j10 j11 j12 yr yc;go_wp2_with fail;refine bodyPost_ret (yF rfl _ WF.drew w.heap.size 36 Kr (0,0) _ _ _ rfl rfl rfl HRF.out Tryz.underlying36 rfl (by kernel_rfl)) rfl ?_;exact⟨YV,[],rfl,Jm _ _,⟨Jl,Jk _⟩,qH HBF.out⟩
 ·
  have HP:=qA (show(emptyT,(0:Int),e0)=(t,n,e) by rw[<-H.out,uS HLS.out he0]);obtain⟨d1,d2⟩:=Prod.mk.inj HP.out;obtain⟨d3,d4⟩:=Prod.mk.inj d2;have f0:(e0 != 0)=true:=by rw[bne_iff_ne];exact he0
  clear HP d2 H;subst d1 d3 d4;go_enter Tryz.func10,Tryz.ntmps10
  go_wp2_with (go_at_call 19;refine hlc0.mono ?_)
  rintro y1 w1 ⟨v1,rfl,o1,b1⟩;have R1:=qA (qX HR0.out b1);have B1:=qA (qF HB0.out b1);clear b1 o1 hlc0;have rf:=Lib.frozen_of_heap R1.out;have j0:=qC R1.out 0 _ rfl;have j1:=qC R1.out 1 _ rfl;have j2:=qC R1.out 2 _ rfl;have j3:=qC R1.out 3 _ rfl;have j4:=qC R1.out 4 _ rfl;have j5:=qC R1.out 5 _ rfl;have j6:=qC R1.out 6 _ rfl;have j7:=qC R1.out 7 _ rfl;have j8:=qC R1.out 8 _ rfl;have j9:=qC R1.out 9 _ rfl;have j10:=qC R1.out 10 _ rfl;have j11:=qC R1.out 11 _ rfl;have j12:=qC R1.out 12 _ rfl;go_wp2_with fail;refine bodyPost_ret (yF rfl _ _ w.heap.size 36 _ (0,0) _ _ _ rfl rfl rfl (VP R1.out) Tryz.underlying36 rfl (by kernel_rfl)) rfl ?_;exact⟨YV,[],rfl,Jm _ _,⟨Jl,Jk _⟩,Ej B1.out (Nat.le_refl _)⟩
theorem KD (txt:ByteArray) (hs:txt.size<=4294967280) (m:Int) (t:TtD) (n e:Int) (H:Hid (vC txt.data.toList=(t,n,e))) (w:World) (env:ah m w):
  Calls Tryz.prog 10 #[.string txt] w fun q w'=> ∃ V ts,q= .returned (.tuple #[JP V t, .int .i64 n, .int .i64 e])/\yA w'.heap.size w' V ts t/\ZZ t/\Bl w w':=
 (mX txt hs m t n e H w env).mono fun _ _ ⟨V,ts,h1,h2,h3,h4⟩=>⟨V,ts,h1,h2,h3.1,h4⟩
end Go.Proofs.YtakedkcjplfgeaaGreatDoor
