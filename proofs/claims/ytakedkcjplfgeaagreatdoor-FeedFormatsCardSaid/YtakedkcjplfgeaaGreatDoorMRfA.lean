/- Contracts, proved. Conditions: each contract's own. -/
import Derived.Test.YtakedkcjplfgeaaGreatDoorMPkWrB
import Derived.Test.YtakedkcjplfgeaaGreatDoorMRfX
set_option maxRecDepth 1000000
set_option maxHeartbeats 32000000
namespace Go.Proofs.YtakedkcjplfgeaaGreatDoor
open Go.RowKit
open Frq Thr Tt Num Clk Dat Fld
theorem TP (n:Int) (t:List UInt8) (e:Int) (H:Hid (jb n=(t,e))) (w:World):Calls Tryz.prog 87 #[.int .i64 n] w fun q w'=>q= .returned (qP t)/\Bl w w':=by
 have hp:=Da.UB n t e H w;go_enter Tryz.func87,Tryz.ntmps87
 go_wp2_with (go_at_call 158;refine hp.mono ?_;rintro y1 w1 ⟨rfl,b1⟩)
 go_ret;exact⟨rfl,b1⟩
theorem TB (n:Int) (t:List UInt8) (e:Int) (H:Hid (xU n=(t,e))) (w:World):Calls Tryz.prog 88 #[.int .i64 n] w fun q w'=>q= .returned (qP t)/\Bl w w':=by
 have hp:=Ck.TV n t e H w;go_enter Tryz.func88,Tryz.ntmps88
 go_wp2_with (go_at_call 159;refine hp.mono ?_;rintro y1 w1 ⟨rfl,b1⟩)
 go_ret;exact⟨rfl,b1⟩
theorem S9 (n:Int) (t:List UInt8) (e:Int) (H:Hid (Ck.gW n=(t,e))) (w:World):Calls Tryz.prog 90 #[.int .i64 n] w fun q w'=>q= .returned (qP t)/\Bl w w':=by
 have hp:=Ck.UC n t e H w;go_enter Tryz.func90,Tryz.ntmps90
 go_wp2_with (go_at_call 160;refine hp.mono ?_;rintro y1 w1 ⟨rfl,b1⟩)
 go_ret;exact⟨rfl,b1⟩
theorem TJ (n:Int) (t:List UInt8) (e:Int) (H:Hid (qW n=(t,e))) (w:World):Calls Tryz.prog 91 #[.int .i64 n] w fun q w'=>q= .returned (qP t)/\w'=w:=by
 have hp:=Nu.Dn n t e H w;go_enter Tryz.func91,Tryz.ntmps91
 go_wp2_with (go_at_call 161;refine hp.mono ?_;rintro y1 w1 ⟨rfl,rfl⟩)
 go_ret;exact⟨rfl,rfl⟩
theorem TQ (v:Bool) (w:World):Calls Tryz.prog 85 #[.bool v] w fun q w'=>q= .returned (qP (kG v))/\w'=w:=by
 cases v
 all_goals
  go_enter Tryz.func85,Tryz.ntmps85
  go_wp2;go_ret;exact⟨rfl,rfl⟩
theorem Uc (c:CallD) (w:World):Calls Tryz.prog 89 #[.agg #[.int .i64 c.stop, .int .i64 c.arrive, .int .i64 c.depart, .bool c.board, .bool c.alight]] w fun q w'=>q= .returned (qP (Qh c))/\Bl w w':=by
 obtain⟨s,a,d,b,al⟩:=c;cases b<;>cases al
 all_goals
  go_enter Tryz.func89,Tryz.ntmps89
  go_wp2;go_ret;exact⟨rfl,by first|exact qB _|exact qE (qB _) _⟩
def Uu (b:Nat) (w:World):Prop:=b<w.heap.size/\ ∀ (i:Nat) (x:List UInt8),qh[i]? =some x->w.cell? ⟨b,i,none⟩=some (qP x)
theorem TI (w:World):Calls Tryz.prog 86 #[] w fun q w'=> ∃ b,q= .returned (.slice (some ⟨b,0,none⟩) 8 8)/\Uu b w'/\Bl w w':=by
 go_enter Tryz.func86,Tryz.ntmps86
 go_wp2;go_ret;refine⟨w.heap.size,rfl,⟨by simp,fun i x hx=>?_⟩,qE (qB _) _⟩;rw[Uy (hn:=rfl)];have hi:i<8:=(Uw.1 hx).1;obtain rfl|rfl|rfl|rfl|rfl|rfl|rfl|rfl:i=0∨i=1∨i=2∨i=3∨i=4∨i=5∨i=6∨i=7:=by omega
 all_goals
  rw[<-qAB hx];rfl
theorem UO: ∀ a:Fin 256,∀ i:Fin 8,(((a.val:Int) / 2 ^ i.val).tmod 2==1)=decide (a.val>>>i.val%2=1):=by decide+kernel
theorem Tn: ∀ a:Fin 256,∀ i:Fin 8,IntKind.u64.wrap (((a.val:Int) / 2 ^ i.val))=((a.val>>>i.val:Nat):Int):=by decide+kernel
theorem Td (n:Nat) (hn:n<256) (i:Nat) (hi:i<8) (r:Bool) (hr:Hid (decide (n>>>i%2=1)=r)) (w:World):Calls Tryz.prog 162 #[.int .i64 n, .int .i64 i] w fun q w'=>q= .returned (.bool r)/\w'=w:=by
 have hw:IntKind.u64.wrap (n:Int)=n:=by have:=Tn ⟨n,hn⟩ ⟨0,by omega⟩;simpa using this
 have hv:IntKind.u64.wrap (i:Int)=i:=by have:=Tn ⟨i,by omega⟩ ⟨0,by omega⟩;simpa using this
 have hq:(((n:Int) / 2 ^ i).tmod 2==1)=r:=by rw[<-hr.out];exact UO ⟨n,hn⟩ ⟨i,hi⟩
 go_enter Tryz.func162,Tryz.ntmps162
 go_wp2;go_ret;exact⟨rfl,rfl⟩
theorem UL (m:Int) (hm:0<=m/\m<=255) (w:World):Calls Tryz.prog 92 #[.int .i64 m] w fun q w'=>q= .returned (.tuple #[qP (vU m), .int .i64 0])/\Bl w w':=by
 obtain⟨n,rfl⟩:=Int.eq_ofNat_of_zero_le hm.1;have hn:n<256:=by omega
 have HT:Hid ((if Qg (vz n 8)=[]then ae else Qg (vz n 8))=vU n):=by
  show _=_
  by_cases h0:n=0
  · subst h0;rfl
  ·
   have h1:vU (n:Int)=Qg (vz n 8):=by
    rw[DL (by omega) hm.2,Int.toNat_natCast];have:=XG hn 56;have h8:=XG hn 0;rw[show vz n 64=vz n 8 from this.trans h8.symm]
   rw[h1,U5];intro e;have hne:vz n 8≠[]:=by
    intro e2;have h3: ∀ a:Fin 256,a.val≠0->vz a.val 8≠[]:=by decide+kernel
    exact h3 ⟨n,hn⟩ h0 e2
   exact Gj (fun i hi=>Bz hn hi) hne e
 obtain⟨mt,hmt⟩: ∃ mt,vU (n:Int)=mt:=⟨_,rfl⟩;rw[hmt]at HT ⊢;clear hmt;go_enter Tryz.func92,Tryz.ntmps92
 go_wp2_with fail;go_loopw [5,4] (fun i s wr=> ∃ (k:Nat) (x:List UInt8),(k<=8/\i= .int .i64 k/\s=qP x)/\x.length<=10*k/\Hid (Qg (vz n k)=x)/\Hid (Bl w wr)) (fun i _ _=>8-(intOf i).toNat)
 case atStart=>exact⟨0,[],⟨by omega,rfl,rfl⟩,U3 _,rfl,qB _⟩
 case round=>
  obtain⟨k,x,⟨hk,rfl,rfl⟩,hxl,HX,HBL⟩:=hrel;by_cases hlt:k<8
  ·
   obtain⟨r,hr⟩: ∃ r,decide (n>>>k%2=1)=r:=⟨_,rfl⟩;have HR:=qA hr;clear hr;have hkI:(k:Int)<8:=by omega
   cases r with
   |false=>
    have HX':=qA (show Qg (vz n (k+1))=x by rw[bV (of_decide_eq_false HR.out)];exact HX.out);go_wp2_with (go_at_call 162;refine(Td n hn k hlt false HR _).mono ?_;rintro y1 w1 ⟨rfl,rfl⟩)
    go_roundw;case rel=>exact⟨k+1,x,⟨by omega,by go_num,rfl⟩,by omega,HX',HBL⟩
    case measure=>simp[intOf];omega
   |true=>
    obtain⟨y,hy⟩: ∃ y,Jt k=y:=⟨_,rfl⟩;have hyl:y.length<=9:=by rw[<-hy];exact Vm hlt
    have HY:Hid (qh[k]? =some y):=by
     show _=_
     rw[<-hy];unfold Jt;rw[List.getD_eq_getElem?_getD,U2 (show k<qh.length from hlt)];rfl
    have HS:=qA (show Qg (vz n (k+1))=if x=[]then y else x++[43]++y by rw[rV (of_decide_eq_true HR.out),uI (fun i hi=>Bz hn hi),HX.out,hy]);clear hy;by_cases hx0:x=[]
    ·
     subst hx0;have HS':=qA (HS.out.trans (U6 rfl));go_wp2_with (first
      |(go_at_call 162;refine(Td n hn k hlt true HR _).mono ?_;rintro y1 w1 ⟨rfl,rfl⟩)
      |(go_at_call 86;refine(TI _).mono ?_;rintro y2 w2 ⟨b,rfl,nm,b2⟩;have m0:w2.cell? ⟨b,k,none⟩=some (qP y):=nm.2 k y HY.out;have B2:=qA (qF HBL.out b2);clear nm b2))
     go_roundw;case rel=>exact⟨k+1,y,⟨by omega,by go_num,by first|rfl|(congr 1)⟩,by omega,HS',B2⟩
     case measure=>simp[intOf];omega
    ·
     have hx1:(x != [])=true:=by rw[bne_iff_ne];exact hx0
     have hx2:(x==[])=false:=by rw[U0];exact hx0
     have HS':=qA (HS.out.trans (U5 hx0));clear hx0;go_wp2_with (first
      |(go_at_call 162;refine(Td n hn k hlt true HR _).mono ?_;rintro y1 w1 ⟨rfl,rfl⟩)
      |(go_at_call 86;refine(TI _).mono ?_;rintro y2 w2 ⟨b,rfl,nm,b2⟩;have m0:w2.cell? ⟨b,k,none⟩=some (qP y):=nm.2 k y HY.out;have B2:=qA (qF HBL.out b2);clear nm b2))
     go_roundw;case rel=>exact⟨k+1,x++[43]++y,⟨by omega,by go_num,by first|rfl|(congr 1)⟩,by simp;omega,HS',B2⟩
     case measure=>simp[intOf];omega
  ·
   obtain rfl:k=8:=by omega
   rw[HX.out]at HT;by_cases hx0:x=[]
   ·
    have HF:=qA (HT.out.symm.trans (U6 hx0));subst hx0;obtain rfl:=HF.out;go_wp2;go_ret2;exact⟨rfl,HBL.out⟩
   ·
    have hx1:(x==[])=false:=by rw[U0];exact hx0
    have HF:=qA (HT.out.symm.trans (U5 hx0));obtain rfl:=HF.out;clear HF HT;go_wp2;go_ret2;exact⟨rfl,HBL.out⟩
theorem Ue (x:List UInt8):(⟨x.toArray⟩++⟨#[10]⟩:ByteArray)=⟨(x++[10]).toArray⟩:=by
 apply ByteArray.ext
 simp
theorem Sl (v:Value) (fs:List (List UInt8)) (HL:Hid (∀ y∈fs,y.length<=131072)) (B:Nat) (w:World) (hv:VW B w v fs) (hB:B<=w.heap.size):
  Calls Tryz.prog 83 #[v] w fun q w'=>q= .returned (qP (jZ fs++[10]))/\Bl w w':=by
 obtain⟨⟨o,e⟩,hoe⟩: ∃ p,zL fs=p:=⟨_,rfl⟩;have HO:=qA (show jZ fs=o by unfold jZ;rw[hoe]);have hp:=Ub v fs o e hoe HL B w hv hB;have hl:=C9 hoe;have hadd:(⟨o.toArray⟩++⟨#[10]⟩:ByteArray)=⟨(o++[10]).toArray⟩:=Ue o;rw[HO.out];clear hoe;go_enter Tryz.func83,Tryz.ntmps83
 go_wp2_with (go_at_call 156;refine hp.mono ?_;rintro y1 w1 ⟨rfl,b1⟩)
 go_ret;exact⟨rfl,b1⟩
structure FS (B tb:Nat) (V:TtV) (ts:List TripD) (t:TtD) (w0 w:World):Prop where
 rd:yA B w V ts t
 tt:JV tb V t.fares w
 bel:Bl w0 w
 size:B<=w.heap.size
theorem FS.bl {B tb:Nat} {V:TtV} {ts:List TripD} {t:TtD} {w0 w w':World} (h:FS B tb V ts t w0 w) (hb:Bl w w'):FS B tb V ts t w0 w':=
 ⟨h.rd.bl hb h.size,qX h.tt hb,qF h.bel hb,Ux h.size hb.size⟩
def SY (A:List (List UInt8)) (x:List UInt8):Prop:=vK A=x/\ ∀ r∈A,r.length<=65536
theorem TR:SY [] []:=⟨rfl,fun r h=>by cases h⟩
theorem TN: ∀ (A:List (List UInt8)),(∀ r∈A,r.length<=65536)->(vK A).length<=A.length*65537
 |[],_=>by simp[vK]
 |a::A,h=>by
  have h1:=h a (by simp);have h2:=TN A fun r hr=>h r (List.mem_cons_of_mem _ hr)
  have e:vK (a::A)=a++10::vK A:=by simp[vK]
  rw[e];simp only[U1,U7];omega
theorem SY.bound {A:List (List UInt8)} {x:List UInt8} (h:SY A x) (hl:A.length<=1000000):x.length<=100000000000:=by
 have:=TN A h.2;rw[h.1]at this;omega
theorem SS (fs:List (List UInt8)):(jZ fs).length<=65536:=C9 (l:=fs) (e:=(zL fs).2) rfl
theorem SY.snoc {A:List (List UInt8)} {x fs yr:List UInt8} {l:List (List UInt8)} (h:SY A x) (hy:jZ l++[10]=yr) (hf:fs=jZ l):SY (A++[fs]) (x++yr):=by
 refine⟨?_,fun r hr=>?_⟩
 ·
  rw[<-h.1,<-hy,hf];simp[vK]
 ·
  rcases List.mem_append.1 hr with hr|hr
  · exact h.2 r hr
  ·
   rw[List.mem_singleton.1 hr,hf];exact SS l
theorem SY.row {α:Type} {A:List (List UInt8)} {l:List α} {f:α->List UInt8} {k:Nat} {x:α} {xs yr:List UInt8} {fs:List (List UInt8)} (h:SY (A++(l.take k).map f) xs) (hx:l[k]? =some x) (hy:jZ fs++[10]=yr) (hr:f x=jZ fs):SY (A++(l.take (k+1)).map f) (xs++yr):=by
 rw[<-Dv hx];exact h.snoc hy hr
theorem SV (x y:List UInt8):Value.string (⟨x.toArray⟩++⟨y.toArray⟩)=qP (x++y):=by
 refine congrArg Value.string ?_;apply ByteArray.ext
 simp
theorem TA {P:Program} {md:Region.Mode} {ops:Array Oper} {Q:Exit->Act->World->Prop} {S S':World->Prop} (h: ∀ w,S' w->S w): ∀ (fuel:Nat) (listed:Array Bool) (a:Act) (w:World),wpAnyH P md ops Q S' fuel listed a w->wpAnyH P md ops Q S fuel listed a w
 |0,_,_,_,k=>k
 |fuel+1,_,_,_,k=>⟨k.1,fun i hi=>wpOp_mono (fun a' w' k'=>⟨h _ k'.1,TA h fuel _ a' w' k'.2⟩) (k.2 i hi)⟩
theorem UJ {q:Nat} (h:q<8):qh[q]? =some (Qe (q:Int)):=by
 obtain rfl|rfl|rfl|rfl|rfl|rfl|rfl|rfl:q=0∨q=1∨q=2∨q=3∨q=4∨q=5∨q=6∨q=7:=by omega
 all_goals rfl
theorem Ud (x:Vw) {j:Nat} (h:j<7): ∃ b:Bool,(∀ a p q:Value,(#[a, .bool x.d0, .bool x.d1, .bool x.d2, .bool x.d3, .bool x.d4, .bool x.d5, .bool x.d6,p,q]:Array Value)[1+j]? =some (.bool b))/\(Qk x).take (j+1)=(Qk x).take j++[if b then 49 else 48]:=by
 obtain rfl|rfl|rfl|rfl|rfl|rfl|rfl:j=0∨j=1∨j=2∨j=3∨j=4∨j=5∨j=6:=by omega
 all_goals exact⟨_,fun _ _ _=>rfl,rfl⟩
def TC (t:TtD):List (List UInt8):=[]++t.stops.map xK++t.routes.map ve++t.cals.map Qp++t.excs.map (wX t)
def Sz (t:TtD):List (List UInt8):=[]++t.trips.flatMap (yG t)++t.freqs.map (Q5 t)++t.thrus.map (Q8 t)++t.guars.map (Je t)
def TL (t:TtD):List (List UInt8):=[]++t.paths.map (Q7 t)++dK t++t.fares.prods.map Jf
theorem UK (B:Nat) (V:TtV) (ts:List TripD) (t:TtD) (v:Hid (AY t)) (lim:Hid (Rj t)) (w:World) (rd:yA B w V ts t) (hB:B<=w.heap.size):
  Calls Tryz.prog 33 #[JP V t] w fun q w'=>(∃ z,q= .returned (qP z)/\Hid (SY (TC t) z))/\Bl w w':=by
 have HV:=v;have HSAME:=qA rd.same;have hlen5:ts.length=t.trips.length:=by have:=congrArg List.length rd.same;rw[U4]at this;exact this.symm
 have HLEN5:=qA hlen5;obtain⟨L0,L1,L2,L3,L4,L5,L6,L7,L8,L9,L10⟩:=lim.out;have HL10:=qA L10;have RD:=qA rd;obtain⟨v0,v1,v2,v3,v4,v5,v6,v7,v8,v9⟩:=V;obtain⟨a0,k0,(rfl:v0=_),-,-⟩:=rd.stops.val;obtain⟨a1,k1,(rfl:v1=_),-,-⟩:=rd.routes.val;obtain⟨a2,k2,(rfl:v2=_),-,-⟩:=rd.cals.val;obtain⟨a3,k3,(rfl:v3=_),-,-⟩:=rd.excs.val;obtain⟨a4,k4,(rfl:v4=_),-,-⟩:=rd.trips.sl.val;obtain⟨a5,k5,(rfl:v5=_),-,-⟩:=rd.freqs.val;obtain⟨a6,k6,(rfl:v6=_),-,-⟩:=rd.thrus.val;obtain⟨a7,k7,(rfl:v7=_),-,-⟩:=rd.guars.val;obtain⟨a8,k8,(rfl:v8=_),-,-⟩:=rd.paths.val;obtain⟨a9,k9,(rfl:v9=_),-,-⟩:=rd.prods.val;have hts:ts.length<=256:=by omega
 clear rd L10 v lim hlen5;unfold JP;simp only[U4]at RD ⊢;change Hid (yA B w (JQ t ts a0 k0 a1 k1 a2 k2 a3 k3 a4 k4 a5 k5 a6 k6 a7 k7 a8 k8 a9 k9) ts t)at RD;obtain⟨w0,hw0⟩: ∃ w0,w.alloc (.cells (Qa (JQ t ts a0 k0 a1 k1 a2 k2 a3 k3 a4 k4 a5 k5 a6 k6 a7 k7 a8 k8 a9 k9) t.fares) 36)=w0:=⟨_,rfl⟩;have b0:Bl w w0:=by rw[<-hw0];exact qE (qB _) _
 have HS:Hid (FS B w.heap.size (JQ t ts a0 k0 a1 k1 a2 k2 a3 k3 a4 k4 a5 k5 a6 k6 a7 k7 a8 k8 a9 k9) ts t w w0):=⟨RD.out.bl b0 hB,by rw[<-hw0];exact heap_alloc_new w _,b0,Ux hB b0.size⟩;clear b0 RD;simp only[Qa]at hw0;obtain⟨A0,hA0⟩: ∃ A0:List (List UInt8),[]=A0:=⟨_,rfl⟩;have HA0:=qA hA0;have lA0:A0.length<=0:=by rw[<-hA0];exact U3 _
 have HT:Hid (SY A0 []):=by show SY _ _;rw[<-hA0];exact TR
 clear hA0;go_enter Tryz.func33,Tryz.ntmps33
 go_wp2_with fail;clear hw0;go_loopw [4,3] (fun i s wr=> ∃ (k:Nat) (xs:List UInt8),(k<=t.stops.length/\i= .int .i64 k/\s=qP xs)/\Hid (SY (A0++(t.stops.take k).map xK) xs)/\Hid (FS B w.heap.size (JQ t ts a0 k0 a1 k1 a2 k2 a3 k3 a4 k4 a5 k5 a6 k6 a7 k7 a8 k8 a9 k9) ts t w wr)) (fun i _ _=>t.stops.length-(intOf i).toNat)
 case atStart=>exact⟨0,[],⟨qAD _,rfl,rfl⟩,by show SY _ _;rw[List.take_zero,List.map_nil,List.append_nil];exact HT.out,HS.out⟩
 case round=>
  clear HS HT;obtain⟨k,xs,⟨hk,rfl,rfl⟩,HT,HS⟩:=hrel;have ux:wr.cell? ⟨w.heap.size,0,none⟩=some (.slice a0 t.stops.length k0):=qC HS.out.tt 0 _ rfl;by_cases hlx:k<t.stops.length
  ·
   obtain⟨x,hx⟩: ∃ x,t.stops[k]? =some x:=⟨_,U2 hlx⟩;obtain⟨bx,ox,rfl,lx,cx⟩:=HS.out.rd.stops.openB (by first|omega|(rw[U4];omega));have hxm:=Uz hx;have hkI:(k:Int)<(t.stops.length:Int):=by omega
   have hll:(A0++(t.stops.take k).map xK).length<=1000000:=by have:=xC A0 t.stops xK k;omega
   have hxl:=HT.out.bound hll;obtain⟨hid,⟨z0,z1⟩,⟨g0,g1⟩⟩:=HV.out.stops x hxm;have d0:wr.cell? ⟨bx,ox+k*4,none⟩=some (qP x.id):=by exact cx k _ hx 0 _ rfl
   have d1:wr.cell? ⟨bx,ox+k*4+1,none⟩=some (.int .i64 x.zone):=by exact cx k _ hx 1 _ rfl
   have d2:wr.cell? ⟨bx,ox+k*4+2,none⟩=some (.bool x.free):=by exact cx k _ hx 2 _ rfl
   have d3:wr.cell? ⟨bx,ox+k*4+3,none⟩=some (.int .i64 x.change):=by exact cx k _ hx 3 _ rfl
   obtain⟨w1,hw1⟩: ∃ w1,wr.alloc (.cells #[qP x.id, .int .i64 x.zone, .bool x.free, .int .i64 x.change] 120)=w1:=⟨_,rfl⟩;have HX:=qA (show w1.heap[wr.heap.size]? =some (.cells #[qP x.id, .int .i64 x.zone, .bool x.free, .int .i64 x.change] 120 (0,0)) by rw[<-hw1];exact heap_alloc_new wr _);have b1:Bl wr w1:=by rw[<-hw1];exact qE (qB _) _
   have HW1:=qA (HS.out.bl b1);have lx:wr.heap.size<w1.heap.size:=lt_of_block HX.out;have t0:w1.cell? ⟨wr.heap.size,0,none⟩=some (qP x.id):=qC HX.out 0 _ rfl;have t1:w1.cell? ⟨wr.heap.size,1,none⟩=some (.int .i64 x.zone):=qC HX.out 1 _ rfl;have t2:w1.cell? ⟨wr.heap.size,2,none⟩=some (.bool x.free):=qC HX.out 2 _ rfl;have t3:w1.cell? ⟨wr.heap.size,3,none⟩=some (.int .i64 x.change):=qC HX.out 3 _ rfl;clear b1;clear cx;go_wp2_with fail;clear hw1 ux d0 d1 d2 d3;have HS1:Hid (∀ W,Bl w1 W->(fun W'=>W'.cell? ⟨wr.heap.size,0,none⟩=some (qP x.id)/\W'.cell? ⟨wr.heap.size,1,none⟩=some (.int .i64 x.zone)/\W'.cell? ⟨wr.heap.size,2,none⟩=some (.bool x.free)/\W'.cell? ⟨wr.heap.size,3,none⟩=some (.int .i64 x.change)) W):=fun W k=>⟨((qG k).1 _ _ lx).trans t0,((qG k).1 _ _ lx).trans t1,((qG k).1 _ _ lx).trans t2,((qG k).1 _ _ lx).trans t3⟩
   have HFL:Hid (∀ y∈([(kw 0),x.id,(jO x.zone),(kG x.free),(jO x.change)]:List (List UInt8)),y.length<=131072):=fun y hy=>by
    simp only[List.mem_cons,List.not_mem_nil,or_false]at hy;rcases hy with rfl|rfl|rfl|rfl|rfl
    · exact Ux ((by decide):_<=100) (by omega)
    · exact Ux ((Ux hid (by omega)):_<=100) (by omega)
    · exact Ux (Qd (n:=x.zone) ⟨by omega,by omega⟩:_<=100) (by omega)
    · exact Ux (Jo x.free:_<=100) (by omega)
    · exact Ux (Qd (n:=x.change) ⟨by omega,by omega⟩:_<=100) (by omega)
   obtain⟨yr,hyr⟩: ∃ yr,jZ [(kw 0),x.id,(jO x.zone),(kG x.free),(jO x.change)]++[10]=yr:=⟨_,rfl⟩;have hyl: ¬ 9223372036854775807<xs.length+yr.length:=by have:=SS [(kw 0),x.id,(jO x.zone),(kG x.free),(jO x.change)];rw[<-hyr,U1];simp only[U7,List.length_nil];omega
   have HYR:=qA hyr;clear hyr;have m0:Bl w1 w1.drew:=qH (qB w1);refine wp_region_held_drew (S:=(fun W'=>W'.cell? ⟨wr.heap.size,0,none⟩=some (qP x.id)/\W'.cell? ⟨wr.heap.size,1,none⟩=some (.int .i64 x.zone)/\W'.cell? ⟨wr.heap.size,2,none⟩=some (.bool x.free)/\W'.cell? ⟨wr.heap.size,3,none⟩=some (.int .i64 x.change))) (by kernel_rfl) (HS1.out _ (qH (qB w1))) (fun hHeld=>?_);refine qI 0 ?_;try simp only[Act.put]
   refine qI 1 ?_;try simp only[Act.put]
   refine qI 2 ?_;try simp only[Act.put]
   refine qI 3 ?_;try simp only[Act.put]
   refine qI 4 ?_;try simp only[Act.put]
   refine qI 6 ?_;try simp only[Act.put]
   refine qI 7 ?_;try simp only[Act.put]
   refine qI 9 ?_;try simp only[Act.put]
   refine qI 10 ?_;try simp only[Act.put]
   refine zh 5 (fun KK hKK=>?_);go_simp;go_at_call 84
   refine(Nu.oL x.zone (by omega) (by omega) _).mono ?_;rintro y1 z1 ⟨rfl,b1⟩;have m1:Bl w1 z1:=by rw[<-b1];exact m0
   clear b1;clear hHeld;refine hKK.out _ _ ?_ (fun hHeld=>?_)
   · exact HS1.out _ m1
   clear hKK KK;try simp only[Act.put]
   refine zh 8 (fun KK hKK=>?_);go_simp;go_at_call 85
   refine(TQ x.free _).mono ?_;rintro y2 z2 ⟨rfl,b2⟩;have m2:Bl w1 z2:=by rw[b2];exact m1
   clear b2;clear hHeld;refine hKK.out _ _ ?_ (fun hHeld=>?_)
   · exact HS1.out _ m2
   clear hKK KK;try simp only[Act.put]
   refine zh 11 (fun KK hKK=>?_);go_simp;go_at_call 84
   refine(Nu.oL x.change (by omega) (by omega) _).mono ?_;rintro y3 z3 ⟨rfl,b3⟩;have m3:Bl w1 z3:=by rw[<-b3];exact m2
   clear b3;clear hHeld;refine hKK.out _ _ ?_ (fun hHeld=>?_)
   · exact HS1.out _ m3
   clear hKK KK;try simp only[Act.put]
   refine zh 12 (fun KK hKK=>?_);go_simp;skip
   clear hHeld;refine hKK.out _ _ ?_ (fun hHeld=>?_)
   · exact HS1.out _ (qE m3 _)
   clear hKK KK;try simp only[Act.put]
   refine zh 13 (fun KK hKK=>?_);go_simp;go_at_call 83
   refine(Sl _ [(kw 0),x.id,(jO x.zone),(kG x.free),(jO x.change)] HFL _ _ (vJ (cells:=strCells) (sz:=1) (fun _=>rfl) [(kw 0),x.id,(jO x.zone),(kG x.free),(jO x.change)] z3 #[.string ⟨#[115,116,111,112]⟩,qP x.id,qP (jO x.zone),qP (kG x.free),qP (jO x.change)] 9 5 5 rfl (U3 _) (by unfold maxLen;omega) rfl) (U3 _)).mono ?_;rw[HYR.out];rintro y9 w9 ⟨rfl,b9⟩;have M9:Bl w1 w9:=qF (qE m3 _) b9;have HS9:=qA (HW1.out.bl M9);clear hHeld;refine hKK.out _ _ ?_ (fun hHeld=>?_)
   · exact HS1.out _ M9
   clear hKK KK;try simp only[Act.put]
   refine qI 14 ?_;try simp only[Act.put]
   refine qI 15 ?_;try simp only[Act.put]
   refine wpAnyH_done (by kernel_rfl) ?_ _;try change Exit.then _ _ .normal _ w9
   clear HS1 HFL b9 M9 m0 m1 m2 m3;have HT10:=qA (HT.out.row hx HYR.out (f:=xK) (A:=A0) rfl);clear HS HT hxl hll hyl;go_wp2;go_roundw;case rel=>exact⟨k+1,xs++yr,⟨by omega,by go_num,SV xs yr⟩,HT10,HS9⟩
   case measure=>simp[intOf];omega
  ·
   skip
   have HTe:SY (A0++t.stops.map xK) xs:=by have:=HT.out;rw[U9 (by omega)]at this;exact this
   obtain⟨A1,hA1⟩: ∃ A',A0++t.stops.map xK=A':=⟨_,rfl⟩;rw[hA1]at HTe;have HA1:=qA hA1;have lA1:A1.length<=64:=by rw[<-hA1,U1,U4];omega
   clear HT hA1;have HT:=qA HTe;clear HTe;go_wp2_with fail;go_loopw [6,3] (fun i s wr=> ∃ (k:Nat) (xs:List UInt8),(k<=t.routes.length/\i= .int .i64 k/\s=qP xs)/\Hid (SY (A1++(t.routes.take k).map ve) xs)/\Hid (FS B w.heap.size (JQ t ts a0 k0 a1 k1 a2 k2 a3 k3 a4 k4 a5 k5 a6 k6 a7 k7 a8 k8 a9 k9) ts t w wr)) (fun i _ _=>t.routes.length-(intOf i).toNat)
   case atStart=>exact⟨0,xs,⟨qAD _,rfl,rfl⟩,by show SY _ _;rw[List.take_zero,List.map_nil,List.append_nil];exact HT.out,HS.out⟩
   case round=>
    clear HS HT;obtain⟨k,xs,⟨hk,rfl,rfl⟩,HT,HS⟩:=hrel;have ux:wr.cell? ⟨w.heap.size,1,none⟩=some (.slice a1 t.routes.length k1):=qC HS.out.tt 1 _ rfl;by_cases hlx:k<t.routes.length
    ·
     obtain⟨x,hx⟩: ∃ x,t.routes[k]? =some x:=⟨_,U2 hlx⟩;obtain⟨bx,ox,rfl,lx,cx⟩:=HS.out.rd.routes.openB (by first|omega|(rw[U4];omega));have hxm:=Uz hx;have hkI:(k:Int)<(t.routes.length:Int):=by omega
     have hll:(A1++(t.routes.take k).map ve).length<=1000000:=by have:=xC A1 t.routes ve k;omega
     have hxl:=HT.out.bound hll;obtain⟨hid,hmd⟩:=HV.out.routes x hxm;obtain⟨qm,hqm⟩: ∃ qm:Nat,x.mode=(qm:Int):=⟨x.mode.toNat,by omega⟩;rw[hqm]at hmd;have hq8:qm<8:=by omega
     have hqI:(qm:Int)<8:=by omega
     have hmw:qh[qm]? =some (Qe (qm:Int)):=UJ hq8;have d0:wr.cell? ⟨bx,ox+k*3,none⟩=some (qP x.id):=by exact cx k _ hx 0 _ rfl
     have d1:wr.cell? ⟨bx,ox+k*3+1,none⟩=some (.int .i64 (qm:Int)):=by rw[<-hqm];exact cx k _ hx 1 _ rfl
     have d2:wr.cell? ⟨bx,ox+k*3+2,none⟩=some (.bool x.bikes):=by exact cx k _ hx 2 _ rfl
     obtain⟨w1,hw1⟩: ∃ w1,wr.alloc (.cells #[qP x.id, .int .i64 (qm:Int), .bool x.bikes] 122)=w1:=⟨_,rfl⟩;have HX:=qA (show w1.heap[wr.heap.size]? =some (.cells #[qP x.id, .int .i64 (qm:Int), .bool x.bikes] 122 (0,0)) by rw[<-hw1];exact heap_alloc_new wr _);have b1:Bl wr w1:=by rw[<-hw1];exact qE (qB _) _
     have HW1:=qA (HS.out.bl b1);have lx:wr.heap.size<w1.heap.size:=lt_of_block HX.out;have t0:w1.cell? ⟨wr.heap.size,0,none⟩=some (qP x.id):=qC HX.out 0 _ rfl;have t1:w1.cell? ⟨wr.heap.size,1,none⟩=some (.int .i64 (qm:Int)):=qC HX.out 1 _ rfl;have t2:w1.cell? ⟨wr.heap.size,2,none⟩=some (.bool x.bikes):=qC HX.out 2 _ rfl;clear b1;clear cx;go_wp2_with fail;clear hw1 ux d0 d1 d2;have HS1:Hid (∀ W,Bl w1 W->(fun W'=>W'.cell? ⟨wr.heap.size,0,none⟩=some (qP x.id)/\W'.cell? ⟨wr.heap.size,1,none⟩=some (.int .i64 (qm:Int))/\W'.cell? ⟨wr.heap.size,2,none⟩=some (.bool x.bikes)) W):=fun W k=>⟨((qG k).1 _ _ lx).trans t0,((qG k).1 _ _ lx).trans t1,((qG k).1 _ _ lx).trans t2⟩
     have HFL:Hid (∀ y∈([(kw 1),x.id,(Qe (qm:Int)),(kG x.bikes)]:List (List UInt8)),y.length<=131072):=fun y hy=>by
      simp only[List.mem_cons,List.not_mem_nil,or_false]at hy;rcases hy with rfl|rfl|rfl|rfl
      · exact Ux ((by decide):_<=100) (by omega)
      · exact Ux ((Ux hid (by omega)):_<=100) (by omega)
      · exact Ux ((nR hmd):_<=100) (by omega)
      · exact Ux (Jo x.bikes:_<=100) (by omega)
     obtain⟨yr,hyr⟩: ∃ yr,jZ [(kw 1),x.id,(Qe (qm:Int)),(kG x.bikes)]++[10]=yr:=⟨_,rfl⟩;have hyl: ¬ 9223372036854775807<xs.length+yr.length:=by have:=SS [(kw 1),x.id,(Qe (qm:Int)),(kG x.bikes)];rw[<-hyr,U1];simp only[U7,List.length_nil];omega
     have HYR:=qA hyr;clear hyr;have m0:Bl w1 w1.drew:=qH (qB w1);refine wp_region_held_drew (S:=(fun W'=>W'.cell? ⟨wr.heap.size,0,none⟩=some (qP x.id)/\W'.cell? ⟨wr.heap.size,1,none⟩=some (.int .i64 (qm:Int))/\W'.cell? ⟨wr.heap.size,2,none⟩=some (.bool x.bikes))) (by kernel_rfl) (HS1.out _ (qH (qB w1))) (fun hHeld=>?_);refine qI 0 ?_;try simp only[Act.put]
     refine qI 1 ?_;try simp only[Act.put]
     refine qI 2 ?_;try simp only[Act.put]
     refine qI 4 ?_;try simp only[Act.put]
     refine qI 5 ?_;try simp only[Act.put]
     refine qI 8 ?_;try simp only[Act.put]
     refine qI 9 ?_;try simp only[Act.put]
     refine zh 3 (fun KK hKK=>?_);go_simp;go_at_call 86
     refine(TI _).mono ?_;rintro y1 z1 ⟨bn,rfl,nm,b1⟩;have m1:Bl w1 z1:=qF m0 b1;have HNM:=qA nm;have HZN:=qA b1;clear b1 nm;clear hHeld;refine hKK.out _ _ ?_ (fun hHeld=>?_)
     · exact HS1.out _ m1
     clear hKK KK;try simp only[Act.put]
     have HS2:Hid (∀ W,Bl z1 W->(fun W'=>W'.cell? ⟨bn,qm,none⟩=some (qP (Qe (qm:Int)))/\(W'.cell? ⟨wr.heap.size,0,none⟩=some (qP x.id)/\W'.cell? ⟨wr.heap.size,1,none⟩=some (.int .i64 (qm:Int))/\W'.cell? ⟨wr.heap.size,2,none⟩=some (.bool x.bikes))) W):=fun W k=>⟨((qG k).1 _ _ HNM.out.1).trans (HNM.out.2 _ _ hmw),HS1.out _ (qF m1 k)⟩
     clear hHeld;have hHeld:=HS2.out _ (qB _);refine TA (S':=(fun W'=>W'.cell? ⟨bn,qm,none⟩=some (qP (Qe (qm:Int)))/\(W'.cell? ⟨wr.heap.size,0,none⟩=some (qP x.id)/\W'.cell? ⟨wr.heap.size,1,none⟩=some (.int .i64 (qm:Int))/\W'.cell? ⟨wr.heap.size,2,none⟩=some (.bool x.bikes)))) (fun _ h=>h.2) _ _ _ _ ?_;refine qI 6 ?_;try simp only[Act.put]
     refine qI 7 ?_;try simp only[Act.put]
     refine zh 10 (fun KK hKK=>?_);go_simp;go_at_call 85
     refine(TQ x.bikes _).mono ?_;rintro y2 z2 ⟨rfl,b2⟩;have m2:Bl w1 z2:=by rw[b2];exact m1
     have n2:Bl z1 z2:=by rw[b2];exact qB _
     clear b2;clear hHeld;refine hKK.out _ _ ?_ (fun hHeld=>?_)
     · exact HS2.out _ n2
     clear hKK KK;try simp only[Act.put]
     refine zh 11 (fun KK hKK=>?_);go_simp;skip
     clear hHeld;refine hKK.out _ _ ?_ (fun hHeld=>?_)
     · exact HS2.out _ (qE n2 _)
     clear hKK KK;try simp only[Act.put]
     refine zh 12 (fun KK hKK=>?_);go_simp;go_at_call 83
     refine(Sl _ [(kw 1),x.id,(Qe (qm:Int)),(kG x.bikes)] HFL _ _ (vJ (cells:=strCells) (sz:=1) (fun _=>rfl) [(kw 1),x.id,(Qe (qm:Int)),(kG x.bikes)] z2 #[.string ⟨#[114,111,117,116,101]⟩,qP x.id,qP (Qe (qm:Int)),qP (kG x.bikes)] 9 4 4 rfl (U3 _) (by unfold maxLen;omega) rfl) (U3 _)).mono ?_;rw[HYR.out];rintro y9 w9 ⟨rfl,b9⟩;have M9:Bl w1 w9:=qF (qE m2 _) b9;have HS9:=qA (HW1.out.bl M9);clear hHeld;refine hKK.out _ _ ?_ (fun hHeld=>?_)
     · exact HS2.out _ (qF (qE n2 _) b9)
     clear hKK KK;try simp only[Act.put]
     refine qI 13 ?_;try simp only[Act.put]
     refine qI 14 ?_;try simp only[Act.put]
     refine wpAnyH_done (by kernel_rfl) ?_ _;try change Exit.then _ _ .normal _ w9
     clear HS1 HFL b9 M9 HS2 HNM HZN m0 m1 m2;have HT10:=qA (HT.out.row hx HYR.out (f:=ve) (A:=A1) (by show jZ [kw 1,x.id,Qe x.mode,kG x.bikes]=_;rw[hqm]));clear HS HT hxl hll hyl;go_wp2;go_roundw;case rel=>exact⟨k+1,xs++yr,⟨by omega,by go_num,SV xs yr⟩,HT10,HS9⟩
     case measure=>simp[intOf];omega
    ·
     skip
     have HTe:SY (A1++t.routes.map ve) xs:=by have:=HT.out;rw[U9 (by omega)]at this;exact this
     obtain⟨A2,hA2⟩: ∃ A',A1++t.routes.map ve=A':=⟨_,rfl⟩;rw[hA2]at HTe;have HA2:=qA hA2;have lA2:A2.length<=128:=by rw[<-hA2,U1,U4];omega
     clear HT hA2;have HT:=qA HTe;clear HTe;go_wp2_with fail;go_loopw [8,3] (fun i s wr=> ∃ (k:Nat) (xs:List UInt8),(k<=t.cals.length/\i= .int .i64 k/\s=qP xs)/\Hid (SY (A2++(t.cals.take k).map Qp) xs)/\Hid (FS B w.heap.size (JQ t ts a0 k0 a1 k1 a2 k2 a3 k3 a4 k4 a5 k5 a6 k6 a7 k7 a8 k8 a9 k9) ts t w wr)) (fun i _ _=>t.cals.length-(intOf i).toNat)
     case atStart=>exact⟨0,xs,⟨qAD _,rfl,rfl⟩,by show SY _ _;rw[List.take_zero,List.map_nil,List.append_nil];exact HT.out,HS.out⟩
     case round=>
      clear HS HT;obtain⟨k,xs,⟨hk,rfl,rfl⟩,HT,HS⟩:=hrel;have ux:wr.cell? ⟨w.heap.size,2,none⟩=some (.slice a2 t.cals.length k2):=qC HS.out.tt 2 _ rfl;by_cases hlx:k<t.cals.length
      ·
       obtain⟨x,hx⟩: ∃ x,t.cals[k]? =some x:=⟨_,U2 hlx⟩;obtain⟨bx,ox,rfl,lx,cx⟩:=HS.out.rd.cals.openB (by first|omega|(rw[U4];omega));have hxm:=Uz hx;have hkI:(k:Int)<(t.cals.length:Int):=by omega
       have hll:(A2++(t.cals.take k).map Qp).length<=1000000:=by have:=xC A2 t.cals Qp k;omega
       have hxl:=HT.out.bound hll;obtain⟨hid,⟨z0,z1⟩,⟨g0,g1⟩⟩:=HV.out.cals x hxm;have d0:wr.cell? ⟨bx,ox+k*10,none⟩=some (qP x.id):=by exact cx k _ hx 0 _ rfl
       have d1:wr.cell? ⟨bx,ox+k*10+1,none⟩=some (.bool x.week.d0):=by exact cx k _ hx 1 _ rfl
       have d2:wr.cell? ⟨bx,ox+k*10+2,none⟩=some (.bool x.week.d1):=by exact cx k _ hx 2 _ rfl
       have d3:wr.cell? ⟨bx,ox+k*10+3,none⟩=some (.bool x.week.d2):=by exact cx k _ hx 3 _ rfl
       have d4:wr.cell? ⟨bx,ox+k*10+4,none⟩=some (.bool x.week.d3):=by exact cx k _ hx 4 _ rfl
       have d5:wr.cell? ⟨bx,ox+k*10+5,none⟩=some (.bool x.week.d4):=by exact cx k _ hx 5 _ rfl
       have d6:wr.cell? ⟨bx,ox+k*10+6,none⟩=some (.bool x.week.d5):=by exact cx k _ hx 6 _ rfl
       have d7:wr.cell? ⟨bx,ox+k*10+7,none⟩=some (.bool x.week.d6):=by exact cx k _ hx 7 _ rfl
       have d8:wr.cell? ⟨bx,ox+k*10+8,none⟩=some (.int .i64 x.frm):=by exact cx k _ hx 8 _ rfl
       have d9:wr.cell? ⟨bx,ox+k*10+9,none⟩=some (.int .i64 x.to):=by exact cx k _ hx 9 _ rfl
       obtain⟨w1,hw1⟩: ∃ w1,wr.alloc (.cells #[qP x.id, .bool x.week.d0, .bool x.week.d1, .bool x.week.d2, .bool x.week.d3, .bool x.week.d4, .bool x.week.d5, .bool x.week.d6, .int .i64 x.frm, .int .i64 x.to] 61)=w1:=⟨_,rfl⟩;have HX:=qA (show w1.heap[wr.heap.size]? =some (.cells #[qP x.id, .bool x.week.d0, .bool x.week.d1, .bool x.week.d2, .bool x.week.d3, .bool x.week.d4, .bool x.week.d5, .bool x.week.d6, .int .i64 x.frm, .int .i64 x.to] 61 (0,0)) by rw[<-hw1];exact heap_alloc_new wr _);have b1:Bl wr w1:=by rw[<-hw1];exact qE (qB _) _
       have HW1:=qA (HS.out.bl b1);have lx:wr.heap.size<w1.heap.size:=lt_of_block HX.out;have t0:w1.cell? ⟨wr.heap.size,0,none⟩=some (qP x.id):=qC HX.out 0 _ rfl;have t1:w1.cell? ⟨wr.heap.size,1,none⟩=some (.bool x.week.d0):=qC HX.out 1 _ rfl;have t2:w1.cell? ⟨wr.heap.size,2,none⟩=some (.bool x.week.d1):=qC HX.out 2 _ rfl;have t3:w1.cell? ⟨wr.heap.size,3,none⟩=some (.bool x.week.d2):=qC HX.out 3 _ rfl;have t4:w1.cell? ⟨wr.heap.size,4,none⟩=some (.bool x.week.d3):=qC HX.out 4 _ rfl;have t5:w1.cell? ⟨wr.heap.size,5,none⟩=some (.bool x.week.d4):=qC HX.out 5 _ rfl;have t6:w1.cell? ⟨wr.heap.size,6,none⟩=some (.bool x.week.d5):=qC HX.out 6 _ rfl;have t7:w1.cell? ⟨wr.heap.size,7,none⟩=some (.bool x.week.d6):=qC HX.out 7 _ rfl;have t8:w1.cell? ⟨wr.heap.size,8,none⟩=some (.int .i64 x.frm):=qC HX.out 8 _ rfl;have t9:w1.cell? ⟨wr.heap.size,9,none⟩=some (.int .i64 x.to):=qC HX.out 9 _ rfl;clear b1;clear cx;go_wp2_with fail;go_loop [11,10] (fun i s=> ∃ (j:Nat) (y:List UInt8),(j<=7/\i= .int .i64 j/\s=qP y)/\y.length=j/\Hid ((Qk x.week).take j=y)) (fun i _=>7-(intOf i).toNat)
       case atStart=>exact⟨0,[],⟨by omega,rfl,rfl⟩,rfl,rfl⟩
       case round=>
        obtain⟨j,y,⟨hj,rfl,rfl⟩,hyj,HY⟩:=hrel;by_cases hj7:j<7
        ·
         obtain⟨bb,hbb,hbc⟩:=Ud x.week hj7;have tw:w1.cell? ⟨wr.heap.size,1+j,none⟩=some (.bool bb):=qC HX.out (1+j) _ (hbb _ _ _);have hjI:(j:Int)<7:=by omega
         have HBC:=qA hbc;clear hbb hbc hw1;cases bb with
         |true=>
          have HY':=qA (show(Qk x.week).take (j+1)=y++[49] by rw[HBC.out,HY.out];rfl);go_wp2;go_round;case rel=>exact⟨j+1,y++[49],⟨by omega,by go_num,SV y [49]⟩,by simp[hyj],HY'⟩
          case measure=>simp[intOf];omega
         |false=>
          have HY':=qA (show(Qk x.week).take (j+1)=y++[48] by rw[HBC.out,HY.out];rfl);go_wp2;go_round;case rel=>exact⟨j+1,y++[48],⟨by omega,by go_num,SV y [48]⟩,by simp[hyj],HY'⟩
          case measure=>simp[intOf];omega
        ·
         obtain rfl:j=7:=by omega
         have hyw:y=Qk x.week:=by rw[<-HY.out];rfl
         subst hyw;clear HY hyj;go_wp2_with fail;clear hw1 ux d0 d1 d2 d3 d4 d5 d6 d7 d8 d9;have HS1:Hid (∀ W,Bl w1 W->(fun W'=>W'.cell? ⟨wr.heap.size,0,none⟩=some (qP x.id)/\W'.cell? ⟨wr.heap.size,8,none⟩=some (.int .i64 x.frm)/\W'.cell? ⟨wr.heap.size,9,none⟩=some (.int .i64 x.to)) W):=fun W k=>⟨((qG k).1 _ _ lx).trans t0,((qG k).1 _ _ lx).trans t8,((qG k).1 _ _ lx).trans t9⟩
         have HFL:Hid (∀ y∈([(kw 2),x.id,(Qk x.week),(jb x.frm).1,(jb x.to).1]:List (List UInt8)),y.length<=131072):=fun y hy=>by
          simp only[List.mem_cons,List.not_mem_nil,or_false]at hy;rcases hy with rfl|rfl|rfl|rfl|rfl
          · exact Ux ((by decide):_<=100) (by omega)
          · exact Ux ((Ux hid (by omega)):_<=100) (by omega)
          · exact Ux (rH x.week:_<=100) (by omega)
          · exact Ux (ZL (d:=x.frm):_<=100) (by omega)
          · exact Ux (ZL (d:=x.to):_<=100) (by omega)
         obtain⟨yr,hyr⟩: ∃ yr,jZ [(kw 2),x.id,(Qk x.week),(jb x.frm).1,(jb x.to).1]++[10]=yr:=⟨_,rfl⟩;have hyl: ¬ 9223372036854775807<xs.length+yr.length:=by have:=SS [(kw 2),x.id,(Qk x.week),(jb x.frm).1,(jb x.to).1];rw[<-hyr,U1];simp only[U7,List.length_nil];omega
         have HYR:=qA hyr;clear hyr;have m0:Bl w1 w1.drew:=qH (qB w1);refine wp_region_held_drew (S:=(fun W'=>W'.cell? ⟨wr.heap.size,0,none⟩=some (qP x.id)/\W'.cell? ⟨wr.heap.size,8,none⟩=some (.int .i64 x.frm)/\W'.cell? ⟨wr.heap.size,9,none⟩=some (.int .i64 x.to))) (by kernel_rfl) (HS1.out _ (qH (qB w1))) (fun hHeld=>?_);refine qI 0 ?_;try simp only[Act.put]
         refine qI 1 ?_;try simp only[Act.put]
         refine qI 2 ?_;try simp only[Act.put]
         refine qI 3 ?_;try simp only[Act.put]
         refine qI 4 ?_;try simp only[Act.put]
         refine qI 5 ?_;try simp only[Act.put]
         refine qI 7 ?_;try simp only[Act.put]
         refine qI 8 ?_;try simp only[Act.put]
         refine zh 6 (fun KK hKK=>?_);go_simp;go_at_call 87
         refine(TP x.frm (jb x.frm).1 (jb x.frm).2 (qA rfl) _).mono ?_;rintro y1 z1 ⟨rfl,b1⟩;have m1:Bl w1 z1:=qF m0 b1;clear b1;clear hHeld;refine hKK.out _ _ ?_ (fun hHeld=>?_)
         · exact HS1.out _ m1
         clear hKK KK;try simp only[Act.put]
         refine zh 9 (fun KK hKK=>?_);go_simp;go_at_call 87
         refine(TP x.to (jb x.to).1 (jb x.to).2 (qA rfl) _).mono ?_;rintro y2 z2 ⟨rfl,b2⟩;have m2:Bl w1 z2:=qF m1 b2;clear b2;clear hHeld;refine hKK.out _ _ ?_ (fun hHeld=>?_)
         · exact HS1.out _ m2
         clear hKK KK;try simp only[Act.put]
         refine zh 10 (fun KK hKK=>?_);go_simp;skip
         clear hHeld;refine hKK.out _ _ ?_ (fun hHeld=>?_)
         · exact HS1.out _ (qE m2 _)
         clear hKK KK;try simp only[Act.put]
         refine zh 11 (fun KK hKK=>?_);go_simp;go_at_call 83
         refine(Sl _ [(kw 2),x.id,(Qk x.week),(jb x.frm).1,(jb x.to).1] HFL _ _ (vJ (cells:=strCells) (sz:=1) (fun _=>rfl) [(kw 2),x.id,(Qk x.week),(jb x.frm).1,(jb x.to).1] z2 #[.string ⟨#[99,97,108,101,110,100,97,114]⟩,qP x.id,qP (Qk x.week),qP (jb x.frm).1,qP (jb x.to).1] 9 5 5 rfl (U3 _) (by unfold maxLen;omega) rfl) (U3 _)).mono ?_;rw[HYR.out];rintro y9 w9 ⟨rfl,b9⟩;have M9:Bl w1 w9:=qF (qE m2 _) b9;have HS9:=qA (HW1.out.bl M9);clear hHeld;refine hKK.out _ _ ?_ (fun hHeld=>?_)
         · exact HS1.out _ M9
         clear hKK KK;try simp only[Act.put]
         refine qI 12 ?_;try simp only[Act.put]
         refine qI 13 ?_;try simp only[Act.put]
         refine wpAnyH_done (by kernel_rfl) ?_ _;try change Exit.then _ _ .normal _ w9
         clear HS1 HFL b9 M9 m0 m1 m2;have HT10:=qA (HT.out.row hx HYR.out (f:=Qp) (A:=A2) rfl);clear HS HT hxl hll hyl;go_wp2;go_roundw;case rel=>exact⟨k+1,xs++yr,⟨by omega,by go_num,SV xs yr⟩,HT10,HS9⟩
         case measure=>simp[intOf];omega
      ·
       skip
       have HTe:SY (A2++t.cals.map Qp) xs:=by have:=HT.out;rw[U9 (by omega)]at this;exact this
       obtain⟨A3,hA3⟩: ∃ A',A2++t.cals.map Qp=A':=⟨_,rfl⟩;rw[hA3]at HTe;have HA3:=qA hA3;have lA3:A3.length<=192:=by rw[<-hA3,U1,U4];omega
       clear HT hA3;have HT:=qA HTe;clear HTe;go_wp2_with fail;go_loopw [12,3] (fun i s wr=> ∃ (k:Nat) (xs:List UInt8),(k<=t.excs.length/\i= .int .i64 k/\s=qP xs)/\Hid (SY (A3++(t.excs.take k).map (wX t)) xs)/\Hid (FS B w.heap.size (JQ t ts a0 k0 a1 k1 a2 k2 a3 k3 a4 k4 a5 k5 a6 k6 a7 k7 a8 k8 a9 k9) ts t w wr)) (fun i _ _=>t.excs.length-(intOf i).toNat)
       case atStart=>exact⟨0,xs,⟨qAD _,rfl,rfl⟩,by show SY _ _;rw[List.take_zero,List.map_nil,List.append_nil];exact HT.out,HS.out⟩
       case round=>
        clear HS HT;obtain⟨k,xs,⟨hk,rfl,rfl⟩,HT,HS⟩:=hrel;have ux:wr.cell? ⟨w.heap.size,3,none⟩=some (.slice a3 t.excs.length k3):=qC HS.out.tt 3 _ rfl;by_cases hlx:k<t.excs.length
        ·
         obtain⟨x,hx⟩: ∃ x,t.excs[k]? =some x:=⟨_,U2 hlx⟩;obtain⟨bx,ox,rfl,lx,cx⟩:=HS.out.rd.excs.openB (by first|omega|(rw[U4];omega));have hxm:=Uz hx;have hkI:(k:Int)<(t.excs.length:Int):=by omega
         have hll:(A3++(t.excs.take k).map (wX t)).length<=1000000:=by have:=xC A3 t.excs (wX t) k;omega
         have hxl:=HT.out.bound hll;obtain⟨hc0,⟨z0,z1⟩⟩:=HV.out.excs x hxm;obtain⟨ad,had⟩: ∃ ad,x.added=ad:=⟨_,rfl⟩;obtain⟨q0,e0,hq0,he0⟩:=Qm (l:=t.cals) hc0;have li0:(q0:Int)<(t.cals.length:Int):=by have:=(Uw.1 he0).1;omega
         have li0n:q0<t.cals.length:=(Uw.1 he0).1;have d0:wr.cell? ⟨bx,ox+k*3,none⟩=some (.int .i64 (q0:Int)):=by rw[<-hq0];exact cx k _ hx 0 _ rfl
         have d1:wr.cell? ⟨bx,ox+k*3+1,none⟩=some (.int .i64 x.day):=by exact cx k _ hx 1 _ rfl
         have d2:wr.cell? ⟨bx,ox+k*3+2,none⟩=some (.bool ad):=by rw[<-had];exact cx k _ hx 2 _ rfl
         obtain⟨w1,hw1⟩: ∃ w1,wr.alloc (.cells #[.int .i64 (q0:Int), .int .i64 x.day, .bool ad] 124)=w1:=⟨_,rfl⟩;have HX:=qA (show w1.heap[wr.heap.size]? =some (.cells #[.int .i64 (q0:Int), .int .i64 x.day, .bool ad] 124 (0,0)) by rw[<-hw1];exact heap_alloc_new wr _);have b1:Bl wr w1:=by rw[<-hw1];exact qE (qB _) _
         have HW1:=qA (HS.out.bl b1);have lx:wr.heap.size<w1.heap.size:=lt_of_block HX.out;have t0:w1.cell? ⟨wr.heap.size,0,none⟩=some (.int .i64 (q0:Int)):=qC HX.out 0 _ rfl;have t1:w1.cell? ⟨wr.heap.size,1,none⟩=some (.int .i64 x.day):=qC HX.out 1 _ rfl;have t2:w1.cell? ⟨wr.heap.size,2,none⟩=some (.bool ad):=qC HX.out 2 _ rfl;clear b1;obtain⟨b0,o0,rfl,l0,cc0⟩:=HW1.out.rd.cals.openB (by omega);have lz0:b0<w1.heap.size:=Nat.lt_of_lt_of_le l0 HW1.out.size;have u0:w1.cell? ⟨w.heap.size,2,none⟩=some (.slice (some ⟨b0,o0,none⟩) t.cals.length k2):=qC HW1.out.tt 2 _ rfl;have v0:w1.cell? ⟨b0,o0+q0*10,none⟩=some (qP e0.id):=cc0 q0 _ he0 0 _ rfl;have lt0:w.heap.size<w1.heap.size:=lt_of_block HW1.out.tt;clear cx cc0;cases ad with
         |true=>
          have HW:=qA hw1;clear hw1;go_wp2_with fail;rw[HW.out];have hw1:=HW.out;clear HW;clear hw1 ux d0 d1 d2;have HS1:Hid (∀ W,Bl w1 W->(fun W'=>W'.cell? ⟨wr.heap.size,0,none⟩=some (.int .i64 (q0:Int))/\W'.cell? ⟨wr.heap.size,1,none⟩=some (.int .i64 x.day)/\W'.cell? ⟨w.heap.size,2,none⟩=some (.slice (some ⟨b0,o0,none⟩) t.cals.length k2)/\W'.cell? ⟨b0,o0+q0*10,none⟩=some (qP e0.id)) W):=fun W k=>⟨((qG k).1 _ _ lx).trans t0,((qG k).1 _ _ lx).trans t1,((qG k).1 _ _ lt0).trans u0,((qG k).1 _ _ lz0).trans v0⟩
          have HFL:Hid (∀ y∈([(kw 3),e0.id,(jb x.day).1,yN]:List (List UInt8)),y.length<=131072):=fun y hy=>by
           simp only[List.mem_cons,List.not_mem_nil,or_false]at hy;rcases hy with rfl|rfl|rfl|rfl
           · exact Ux ((by decide):_<=100) (by omega)
           · exact Ux ((Ux (HV.out.cals _ (Uz he0)).1 (by omega)):_<=100) (by omega)
           · exact Ux (ZL (d:=x.day):_<=100) (by omega)
           · exact Ux ((by decide):_<=100) (by omega)
          obtain⟨yr,hyr⟩: ∃ yr,jZ [(kw 3),e0.id,(jb x.day).1,yN]++[10]=yr:=⟨_,rfl⟩;have hyl: ¬ 9223372036854775807<xs.length+yr.length:=by have:=SS [(kw 3),e0.id,(jb x.day).1,yN];rw[<-hyr,U1];simp only[U7,List.length_nil];omega
          have HYR:=qA hyr;clear hyr;have m0:Bl w1 w1.drew:=qH (qB w1);refine wp_region_held_drew (S:=(fun W'=>W'.cell? ⟨wr.heap.size,0,none⟩=some (.int .i64 (q0:Int))/\W'.cell? ⟨wr.heap.size,1,none⟩=some (.int .i64 x.day)/\W'.cell? ⟨w.heap.size,2,none⟩=some (.slice (some ⟨b0,o0,none⟩) t.cals.length k2)/\W'.cell? ⟨b0,o0+q0*10,none⟩=some (qP e0.id))) (by kernel_rfl) (HS1.out _ (qH (qB w1))) (fun hHeld=>?_);refine qI 0 ?_;try simp only[Act.put]
          refine qI 1 ?_;try simp only[Act.put]
          refine qI 2 ?_;try simp only[Act.put]
          refine qI 3 ?_;try simp only[Act.put]
          refine qI 4 ?_;try simp only[Act.put]
          refine qI 5 ?_;try simp only[Act.put]
          refine qI 6 ?_;try simp only[Act.put]
          refine qI 7 ?_;try simp only[Act.put]
          refine qI 8 ?_;try simp only[Act.put]
          refine qI 9 ?_;try simp only[Act.put]
          refine qI 11 ?_;try simp only[Act.put]
          refine zh 10 (fun KK hKK=>?_);go_simp;go_at_call 87
          refine(TP x.day (jb x.day).1 (jb x.day).2 (qA rfl) _).mono ?_;rintro y1 z1 ⟨rfl,b1⟩;have m1:Bl w1 z1:=qF m0 b1;clear b1;clear hHeld;refine hKK.out _ _ ?_ (fun hHeld=>?_)
          · exact HS1.out _ m1
          clear hKK KK;try simp only[Act.put]
          refine zh 12 (fun KK hKK=>?_);go_simp;skip
          clear hHeld;refine hKK.out _ _ ?_ (fun hHeld=>?_)
          · exact HS1.out _ (qE m1 _)
          clear hKK KK;try simp only[Act.put]
          refine zh 13 (fun KK hKK=>?_);go_simp;go_at_call 83
          refine(Sl _ [(kw 3),e0.id,(jb x.day).1,yN] HFL _ _ (vJ (cells:=strCells) (sz:=1) (fun _=>rfl) [(kw 3),e0.id,(jb x.day).1,yN] z1 #[.string ⟨#[101,120,99,101,112,116,105,111,110]⟩,qP e0.id,qP (jb x.day).1,qP yN] 9 4 4 rfl (U3 _) (by unfold maxLen;omega) rfl) (U3 _)).mono ?_;rw[HYR.out];rintro y9 w9 ⟨rfl,b9⟩;have M9:Bl w1 w9:=qF (qE m1 _) b9;have HS9:=qA (HW1.out.bl M9);clear hHeld;refine hKK.out _ _ ?_ (fun hHeld=>?_)
          · exact HS1.out _ M9
          clear hKK KK;try simp only[Act.put]
          refine qI 14 ?_;try simp only[Act.put]
          refine qI 15 ?_;try simp only[Act.put]
          refine wpAnyH_done (by kernel_rfl) ?_ _;try change Exit.then _ _ .normal _ w9
          clear HS1 HFL b9 M9 m0 m1;have HT10:=qA (HT.out.row hx HYR.out (f:=(wX t)) (A:=A3) (by unfold wX;rw[hq0,Qv he0,had];rfl));clear HS HT hxl hll hyl;go_wp2;go_roundw;case rel=>exact⟨k+1,xs++yr,⟨by omega,by go_num,SV xs yr⟩,HT10,HS9⟩
          case measure=>simp[intOf];omega
         |false=>
          have HW:=qA hw1;clear hw1;go_wp2_with fail;rw[HW.out];have hw1:=HW.out;clear HW;clear hw1 ux d0 d1 d2;have HS1:Hid (∀ W,Bl w1 W->(fun W'=>W'.cell? ⟨wr.heap.size,0,none⟩=some (.int .i64 (q0:Int))/\W'.cell? ⟨wr.heap.size,1,none⟩=some (.int .i64 x.day)/\W'.cell? ⟨w.heap.size,2,none⟩=some (.slice (some ⟨b0,o0,none⟩) t.cals.length k2)/\W'.cell? ⟨b0,o0+q0*10,none⟩=some (qP e0.id)) W):=fun W k=>⟨((qG k).1 _ _ lx).trans t0,((qG k).1 _ _ lx).trans t1,((qG k).1 _ _ lt0).trans u0,((qG k).1 _ _ lz0).trans v0⟩
          have HFL:Hid (∀ y∈([(kw 3),e0.id,(jb x.day).1,jM]:List (List UInt8)),y.length<=131072):=fun y hy=>by
           simp only[List.mem_cons,List.not_mem_nil,or_false]at hy;rcases hy with rfl|rfl|rfl|rfl
           · exact Ux ((by decide):_<=100) (by omega)
           · exact Ux ((Ux (HV.out.cals _ (Uz he0)).1 (by omega)):_<=100) (by omega)
           · exact Ux (ZL (d:=x.day):_<=100) (by omega)
           · exact Ux ((by decide):_<=100) (by omega)
          obtain⟨yr,hyr⟩: ∃ yr,jZ [(kw 3),e0.id,(jb x.day).1,jM]++[10]=yr:=⟨_,rfl⟩;have hyl: ¬ 9223372036854775807<xs.length+yr.length:=by have:=SS [(kw 3),e0.id,(jb x.day).1,jM];rw[<-hyr,U1];simp only[U7,List.length_nil];omega
          have HYR:=qA hyr;clear hyr;have m0:Bl w1 w1.drew:=qH (qB w1);refine wp_region_held_drew (S:=(fun W'=>W'.cell? ⟨wr.heap.size,0,none⟩=some (.int .i64 (q0:Int))/\W'.cell? ⟨wr.heap.size,1,none⟩=some (.int .i64 x.day)/\W'.cell? ⟨w.heap.size,2,none⟩=some (.slice (some ⟨b0,o0,none⟩) t.cals.length k2)/\W'.cell? ⟨b0,o0+q0*10,none⟩=some (qP e0.id))) (by kernel_rfl) (HS1.out _ (qH (qB w1))) (fun hHeld=>?_);refine qI 0 ?_;try simp only[Act.put]
          refine qI 1 ?_;try simp only[Act.put]
          refine qI 2 ?_;try simp only[Act.put]
          refine qI 3 ?_;try simp only[Act.put]
          refine qI 4 ?_;try simp only[Act.put]
          refine qI 5 ?_;try simp only[Act.put]
          refine qI 6 ?_;try simp only[Act.put]
          refine qI 7 ?_;try simp only[Act.put]
          refine qI 8 ?_;try simp only[Act.put]
          refine qI 9 ?_;try simp only[Act.put]
          refine qI 11 ?_;try simp only[Act.put]
          refine zh 10 (fun KK hKK=>?_);go_simp;go_at_call 87
          refine(TP x.day (jb x.day).1 (jb x.day).2 (qA rfl) _).mono ?_;rintro y1 z1 ⟨rfl,b1⟩;have m1:Bl w1 z1:=qF m0 b1;clear b1;clear hHeld;refine hKK.out _ _ ?_ (fun hHeld=>?_)
          · exact HS1.out _ m1
          clear hKK KK;try simp only[Act.put]
          refine zh 12 (fun KK hKK=>?_);go_simp;skip
          clear hHeld;refine hKK.out _ _ ?_ (fun hHeld=>?_)
          · exact HS1.out _ (qE m1 _)
          clear hKK KK;try simp only[Act.put]
          refine zh 13 (fun KK hKK=>?_);go_simp;go_at_call 83
          refine(Sl _ [(kw 3),e0.id,(jb x.day).1,jM] HFL _ _ (vJ (cells:=strCells) (sz:=1) (fun _=>rfl) [(kw 3),e0.id,(jb x.day).1,jM] z1 #[.string ⟨#[101,120,99,101,112,116,105,111,110]⟩,qP e0.id,qP (jb x.day).1,qP jM] 9 4 4 rfl (U3 _) (by unfold maxLen;omega) rfl) (U3 _)).mono ?_;rw[HYR.out];rintro y9 w9 ⟨rfl,b9⟩;have M9:Bl w1 w9:=qF (qE m1 _) b9;have HS9:=qA (HW1.out.bl M9);clear hHeld;refine hKK.out _ _ ?_ (fun hHeld=>?_)
          · exact HS1.out _ M9
          clear hKK KK;try simp only[Act.put]
          refine qI 14 ?_;try simp only[Act.put]
          refine qI 15 ?_;try simp only[Act.put]
          refine wpAnyH_done (by kernel_rfl) ?_ _;try change Exit.then _ _ .normal _ w9
          clear HS1 HFL b9 M9 m0 m1;have HT10:=qA (HT.out.row hx HYR.out (f:=(wX t)) (A:=A3) (by unfold wX;rw[hq0,Qv he0,had];rfl));clear HS HT hxl hll hyl;go_wp2;go_roundw;case rel=>exact⟨k+1,xs++yr,⟨by omega,by go_num,SV xs yr⟩,HT10,HS9⟩
          case measure=>simp[intOf];omega
        ·
         skip
         have HTe:SY (A3++t.excs.map (wX t)) xs:=by have:=HT.out;rw[U9 (by omega)]at this;exact this
         obtain⟨A4,hA4⟩: ∃ A',A3++t.excs.map (wX t)=A':=⟨_,rfl⟩;rw[hA4]at HTe;have HA4:=qA hA4;have lA4:A4.length<=448:=by rw[<-hA4,U1,U4];omega
         clear HT hA4;have HT:=qA HTe;clear HTe;have HF:Hid (SY (TC t) xs):=by show SY _ _;have:=HT.out;rw[<-HA4.out,<-HA3.out,<-HA2.out,<-HA1.out,<-HA0.out]at this;exact this
         have HBE:=qA HS.out.bel;clear HT HS;go_wp2;go_ret;exact⟨⟨xs,rfl,HF⟩,HBE.out⟩
end Go.Proofs.YtakedkcjplfgeaaGreatDoor
