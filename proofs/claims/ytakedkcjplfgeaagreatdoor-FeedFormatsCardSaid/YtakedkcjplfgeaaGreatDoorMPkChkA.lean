/- Contracts, proved. Conditions: each contract's own. -/
import Derived.Test.YtakedkcjplfgeaaGreatDoorMPkFedA
import Derived.Test.YtakedkcjplfgeaaGreatDoorMPkMs
import Derived.Test.YtakedkcjplfgeaaGreatDoorMPkDaA
set_option maxRecDepth 1000000
set_option maxHeartbeats 32000000
namespace Go.Proofs.YtakedkcjplfgeaaGreatDoor
open Go.RowKit
open Frq Thr Tt
theorem qY {a b:Int} {r r':Int×Int} (h:r'=(a,b)) (h':r'=r):Ending.returned (.tuple #[.int .i64 a, .int .i64 b])= .returned (.tuple #[.int .i64 r.1, .int .i64 r.2]):=by rw[<-h',h]
theorem zM {α:Type} {most:Nat} {err:List α->α->Int} {l:List α} (h:most<l.length):qZ most err l=(0,5):=by unfold qZ;rw[U6 h]
theorem zf {α:Type} {most:Nat} {err:List α->α->Int} {l:List α} (h:l.length<=most):qZ most err l=wU err (l.take 0) (l.drop 0):=by unfold qZ;rw[U5 (by omega)];rfl
theorem yR (w:World):(zeroValue 4).run Tryz.prog w= .ok (.bool false) w:=by kernel_rfl
theorem KH {α:Type} {l:List α} {k:Nat} {x:α} (f:α->List UInt8) (h:l[k]? =some x):(l.take (k+1)).map f=(l.take k).map f++[f x]:=by rw[ql h,List.map_append];rfl
theorem JS {α:Type} (l:List α) (f:α->List UInt8) {S:Lit->Bool} (h:QV (l.map f) S) (x:List UInt8):(l.any fun y=>f y==x)=S (.string x):=by
 rw[h x,List.any_map];rfl
theorem NF (vl:Value) (l:List ZH) (r:Int×Int) (H:Hid (qZ 64 zI l=r)) (hs:Hid (∀ x∈l,x.id.length<=9223372036854775807)) (B:Nat) (w:World) (hl:jA jY 4 B w vl l) (hB:B<=w.heap.size):
  Calls Tryz.prog 43 #[vl] w fun e w'=>e= .returned (.tuple #[.int .i64 r.1, .int .i64 r.2])/\Bl w w':=by
 obtain⟨al,capl,rfl,ll1,ll2⟩:=hl.val;have HL:=qA hl;clear hl;by_cases hmany:64<l.length
 ·
  have HR:=qA (zM (err:=zI) hmany);go_enter Tryz.func43,Tryz.ntmps43
  go_wp2;go_ret2;exact⟨qY HR.out H.out,qB _⟩
 ·
  have hfew:l.length<=64:=by omega
  have HR:Hid (wU zI (l.take 0) (l.drop 0)=r):=(zf hfew).symm.trans H.out;have hmm:= @run_makeMap Tryz.prog;obtain⟨w1,hw1⟩: ∃ w1,w.alloc (.map #[] 0)=w1:=⟨_,rfl⟩;have HS1:Hid (Zv w1 w.heap.size 0 (fun _=>false)):=by rw[<-hw1];exact je w Tryz.prog 9 4
  have B1:Hid (Bl w w1):=by rw[<-hw1];exact qE (qB _) _
  clear hmany;go_enter Tryz.func43,Tryz.ntmps43
  go_wp2_with fail;clear hw1 hmm;go_loopw [13] (fun i wr=> ∃ (k:Nat) (S:Lit->Bool),(k<=l.length/\i= .int .i64 k)/\Hid (QV ((l.take k).map (·.id)) S/\Zv wr w.heap.size k S)/\Hid (wU zI (l.take k) (l.drop k)=r)/\Bl w wr) (fun i _=>l.length-(intOf i).toNat)
  case atStart=>exact⟨0,_,⟨qAD _,rfl⟩,⟨Ql,HS1.out⟩,HR,B1.out⟩
  case round=>
   obtain⟨k,S,⟨hk,rfl⟩,HSS,HC,hbl⟩:=hrel;have z1:=hbl.size;by_cases hlt:k<l.length
   ·
    obtain⟨bl',ol,x,rfl,hbs,hx,hc⟩:=HL.out.get hlt hbl hB;have d0:wr.cell? ⟨bl',ol+k*4,none⟩=some (qP x.id):=hc 0 _ rfl;have d1:wr.cell? ⟨bl',ol+k*4+1,none⟩=some (.int .i64 x.zone):=hc 1 _ rfl;have d2:wr.cell? ⟨bl',ol+k*4+2,none⟩=some (.bool x.free):=hc 2 _ rfl;have d3:wr.cell? ⟨bl',ol+k*4+3,none⟩=some (.int .i64 x.change):=hc 3 _ rfl;have hkI:(k:Int)<(l.length:Int):=by omega
    have HX:=qA hx;have hsz:=hs.out x (Uz hx);clear hx hc;obtain⟨p,hp⟩: ∃ p,jU x.id=p:=⟨_,rfl⟩;obtain⟨q,hq⟩: ∃ q,S (.string x.id)=q:=⟨_,rfl⟩;have HP:=qA hp;have HQ:Hid (((l.take k).any fun y=>y.id==x.id)=q):=by show _=_;rw[JS (l.take k) (·.id) HSS.out.1,hq]
    obtain⟨w2,hw2⟩: ∃ w2,wr.alloc (.cells #[qP x.id, .int .i64 x.zone, .bool x.free, .int .i64 x.change] 120)=w2:=⟨_,rfl⟩;have b2:Bl wr w2:=by rw[<-hw2];exact qE (qB _) _
    have t0:w2.cell? ⟨wr.heap.size,0,none⟩=some (qP x.id):=by rw[<-hw2,Uy (hn:=rfl)];rfl
    have t1:w2.cell? ⟨wr.heap.size,1,none⟩=some (.int .i64 x.zone):=by rw[<-hw2,Uy (hn:=rfl)];rfl
    have t3:w2.cell? ⟨wr.heap.size,3,none⟩=some (.int .i64 x.change):=by rw[<-hw2,Uy (hn:=rfl)];rfl
    have s2:w2.heap.size=wr.heap.size+1:=by rw[<-hw2];simp
    have B2:Hid (Bl w w2):=qF hbl b2;have hset:=HSS.out.2.bl b2;have hlook:=hset.look xM Tryz.underlying166 Tryz.underlying4 (yR w2) (xJ hsz);rw[hq]at hlook;obtain⟨wa,ha1,ha2,ha3⟩:=hset.put xM Tryz.underlying166 Tryz.underlying4 (by unfold maxLen;omega) (xJ hsz);have HA2:=qA ha2;have HA3:=qA ha3;clear hp hq b2 hset ha2 ha3;have hid:=fun w=>Ms.Y6 ⟨x.id.toArray⟩ (by show x.id.toArray.size<=_;rw[List.size_toArray];unfold maxLen;omega) p HP w
    cases p with
    |false=>
     have HE:=qA (qU (err:=zI) HX.out (show zI (l.take k) x=12 by unfold zI;rw[U6 HP.out]) (by decide));go_wp2_with (go_at_call 119;refine(hid _).mono ?_;rintro e w3 ⟨rfl,rfl⟩)
     go_ret2;exact⟨qY HE.out HC.out,B2.out⟩
    |true=>
     have hP1: ¬ jU x.id=false:=by rw[HP.out];decide
     have HP1:=qA hP1;clear hP1;cases q with
     |true=>
      have HE:=qA (qU (err:=zI) HX.out (show zI (l.take k) x=6 by unfold zI;rw[U5 HP1.out,U6 HQ.out]) (by decide));go_wp2_with (go_at_call 119;refine(hid _).mono ?_;rintro e w3 ⟨rfl,rfl⟩)
      go_ret2;exact⟨qY HE.out HC.out,B2.out⟩
     |false=>
      have HQ1:=qA (show ¬ ((l.take k).any fun y=>y.id==x.id)=true by rw[HQ.out];decide);go_wp2_with (go_at_call 119;refine(hid _).mono ?_;rintro e w3 ⟨rfl,rfl⟩)
      all_goals first
       |
        go_ret2;have HE:=qU (err:=zI) HX.out (show zI (l.take k) x=2 by unfold zI;rw[U5 HP1.out,U5 HQ1.out,U6 (by unfold qK;simp;omega)]) (by decide);exact⟨qY HE HC.out,B2.out⟩
       |have HG:=jS (err:=zI) HX.out (show zI (l.take k) x=0 by unfold zI;rw[U5 HP1.out,U5 HQ1.out,U5 (by unfold qK;simp;omega)])
        exact⟨⟨k+1,_,⟨by omega,by go_num⟩,⟨by rw[KH (·.id) HX.out];exact HSS.out.1.snoc x.id,HA2.out⟩,HG.symm.trans HC.out,B2.out.grown HA3.out (by omega) (fun k hk=>by cases hk;omega)⟩,by simp[intOf];omega⟩
   ·
    have HE:=qA (jy (err:=zI) (show l.length<=k by omega));go_wp2;go_ret2;exact⟨qY HE.out HC.out,hbl⟩
theorem gm (m:Int) (w:World):Calls Tryz.prog 120 #[.int .i64 m] w fun e w'=>e= .returned (.bool (!qK m 0 7))/\w=w':=by
 have h:(m<0/\qK m 0 7=true)∨(0<=m/\m<8/\qK m 0 7=false)∨(0<=m/\8<=m/\qK m 0 7=true):=by
  unfold qK;by_cases h0:m<0
  · exact .inl ⟨h0,by simp[h0]⟩
  ·
   by_cases h1:m<8
   · exact .inr (.inl ⟨by omega,h1,by simp;omega⟩)
   · exact .inr (.inr ⟨by omega,by omega,by simp;omega⟩)
 rcases h with⟨h1,h⟩|⟨h1,h2,h⟩|⟨h1,h2,h⟩
 all_goals
  rw[h];clear h;go_enter Tryz.func120,Tryz.ntmps120
  go_wp2;go_ret;exact⟨qO (by first|rfl|(simp;omega)),rfl⟩
theorem ZC (d:Int):Da.QN d=Yv d:=by
 unfold Da.QN Yv;rcases Int.lt_or_le d 0 with h|h
 ·
  first
  |(simp;omega)
  |simp
 · simp
theorem Hz (vl:Value) (l:List xy) (r:Int×Int) (H:Hid (qZ 64 zA l=r)) (hs:Hid (∀ x∈l,x.id.length<=9223372036854775807)) (B:Nat) (w:World) (hl:jA jP 3 B w vl l) (hB:B<=w.heap.size):
  Calls Tryz.prog 45 #[vl] w fun e w'=>e= .returned (.tuple #[.int .i64 r.1, .int .i64 r.2])/\Bl w w':=by
 obtain⟨al,capl,rfl,ll1,ll2⟩:=hl.val;have HL:=qA hl;clear hl;by_cases hmany:64<l.length
 ·
  have HR:=qA (zM (err:=zA) hmany);go_enter Tryz.func45,Tryz.ntmps45
  go_wp2;go_ret2;exact⟨qY HR.out H.out,qB _⟩
 ·
  have hfew:l.length<=64:=by omega
  have HR:Hid (wU zA (l.take 0) (l.drop 0)=r):=(zf hfew).symm.trans H.out;have hmm:= @run_makeMap Tryz.prog;obtain⟨w1,hw1⟩: ∃ w1,w.alloc (.map #[] 0)=w1:=⟨_,rfl⟩;have HS1:Hid (Zv w1 w.heap.size 0 (fun _=>false)):=by rw[<-hw1];exact je w Tryz.prog 9 4
  have B1:Hid (Bl w w1):=by rw[<-hw1];exact qE (qB _) _
  clear hmany;go_enter Tryz.func45,Tryz.ntmps45
  go_wp2_with fail;clear hw1 hmm;go_loopw [13] (fun i wr=> ∃ (k:Nat) (S:Lit->Bool),(k<=l.length/\i= .int .i64 k)/\Hid (QV ((l.take k).map (·.id)) S/\Zv wr w.heap.size k S)/\Hid (wU zA (l.take k) (l.drop k)=r)/\Bl w wr) (fun i _=>l.length-(intOf i).toNat)
  case atStart=>exact⟨0,_,⟨qAD _,rfl⟩,⟨Ql,HS1.out⟩,HR,B1.out⟩
  case round=>
   obtain⟨k,S,⟨hk,rfl⟩,HSS,HC,hbl⟩:=hrel;have z1:=hbl.size;by_cases hlt:k<l.length
   ·
    obtain⟨bl',ol,x,rfl,hbs,hx,hc⟩:=HL.out.get hlt hbl hB;have d0:wr.cell? ⟨bl',ol+k*3,none⟩=some (qP x.id):=hc 0 _ rfl;have d1:wr.cell? ⟨bl',ol+k*3+1,none⟩=some (.int .i64 x.mode):=hc 1 _ rfl;have d2:wr.cell? ⟨bl',ol+k*3+2,none⟩=some (.bool x.bikes):=hc 2 _ rfl;have hkI:(k:Int)<(l.length:Int):=by omega
    have HX:=qA hx;have hsz:=hs.out x (Uz hx);clear hx hc;obtain⟨p,hp⟩: ∃ p,jU x.id=p:=⟨_,rfl⟩;obtain⟨q,hq⟩: ∃ q,S (.string x.id)=q:=⟨_,rfl⟩;have HP:=qA hp;have HQ:Hid (((l.take k).any fun y=>y.id==x.id)=q):=by show _=_;rw[JS (l.take k) (·.id) HSS.out.1,hq]
    obtain⟨w2,hw2⟩: ∃ w2,wr.alloc (.cells #[qP x.id, .int .i64 x.mode, .bool x.bikes] 122)=w2:=⟨_,rfl⟩;have b2:Bl wr w2:=by rw[<-hw2];exact qE (qB _) _
    have t0:w2.cell? ⟨wr.heap.size,0,none⟩=some (qP x.id):=by rw[<-hw2,Uy (hn:=rfl)];rfl
    have t1:w2.cell? ⟨wr.heap.size,1,none⟩=some (.int .i64 x.mode):=by rw[<-hw2,Uy (hn:=rfl)];rfl
    have t2:w2.cell? ⟨wr.heap.size,2,none⟩=some (.bool x.bikes):=by rw[<-hw2,Uy (hn:=rfl)];rfl
    have s2:w2.heap.size=wr.heap.size+1:=by rw[<-hw2];simp
    have B2:Hid (Bl w w2):=qF hbl b2;have hset:=HSS.out.2.bl b2;have hlook:=hset.look xM Tryz.underlying166 Tryz.underlying4 (yR w2) (xJ hsz);rw[hq]at hlook;obtain⟨wa,ha1,ha2,ha3⟩:=hset.put xM Tryz.underlying166 Tryz.underlying4 (by unfold maxLen;omega) (xJ hsz);have HA2:=qA ha2;have HA3:=qA ha3;clear hp hq b2 hset ha2 ha3;have hid:=fun w=>Ms.Y6 ⟨x.id.toArray⟩ (by show x.id.toArray.size<=_;rw[List.size_toArray];unfold maxLen;omega) p HP w
    obtain⟨o,ho⟩: ∃ o,qK x.mode 0 7=o:=⟨_,rfl⟩;have HO:=qA ho;clear ho;cases p with
    |false=>
     have HE:=qA (qU (err:=zA) HX.out (show zA (l.take k) x=12 by unfold zA;rw[U6 HP.out]) (by decide));go_wp2_with (go_at_call 119;refine(hid _).mono ?_;rintro e w3 ⟨rfl,rfl⟩)
     go_ret2;exact⟨qY HE.out HC.out,B2.out⟩
    |true=>
     have HP1:=qA (show ¬ jU x.id=false by rw[HP.out];decide);cases q with
     |true=>
      have HE:=qA (qU (err:=zA) HX.out (show zA (l.take k) x=6 by unfold zA;rw[U5 HP1.out,U6 HQ.out]) (by decide));go_wp2_with (go_at_call 119;refine(hid _).mono ?_;rintro e w3 ⟨rfl,rfl⟩)
      go_ret2;exact⟨qY HE.out HC.out,B2.out⟩
     |false=>
      have HQ1:=qA (show ¬ ((l.take k).any fun y=>y.id==x.id)=true by rw[HQ.out];decide);go_wp2_with (first
       |(go_at_call 119;refine(hid _).mono ?_;rintro e w3 ⟨rfl,rfl⟩)
       |(go_at_call 120;refine(gm x.mode _).mono ?_;rintro e w3 ⟨rfl,rfl⟩;rw[HO.out];cases o))
      all_goals first
       |
        go_ret2;have HE:=qU (err:=zA) HX.out (show zA (l.take k) x=2 by unfold zA;rw[U5 HP1.out,U5 HQ1.out,U6 (HO.out)]) (by decide);exact⟨qY HE HC.out,B2.out⟩
       |have HG:=jS (err:=zA) HX.out (show zA (l.take k) x=0 by unfold zA;rw[U5 HP1.out,U5 HQ1.out,U5 (by rw[HO.out];decide)])
        exact⟨⟨k+1,_,⟨by omega,by go_num⟩,⟨by rw[KH (·.id) HX.out];exact HSS.out.1.snoc x.id,HA2.out⟩,HG.symm.trans HC.out,B2.out.grown HA3.out (by omega) (fun k hk=>by cases hk;omega)⟩,by simp[intOf];omega⟩
   ·
    have HE:=qA (jy (err:=zA) (show l.length<=k by omega));go_wp2;go_ret2;exact⟨qY HE.out HC.out,hbl⟩
theorem OA (vl:Value) (l:List Yj) (r:Int×Int) (H:Hid (qZ 64 zZ l=r)) (hs:Hid (∀ x∈l,x.id.length<=9223372036854775807)) (B:Nat) (w:World) (hl:jA kD 10 B w vl l) (hB:B<=w.heap.size):
  Calls Tryz.prog 47 #[vl] w fun e w'=>e= .returned (.tuple #[.int .i64 r.1, .int .i64 r.2])/\Bl w w':=by
 obtain⟨al,capl,rfl,ll1,ll2⟩:=hl.val;have HL:=qA hl;clear hl;by_cases hmany:64<l.length
 ·
  have HR:=qA (zM (err:=zZ) hmany);go_enter Tryz.func47,Tryz.ntmps47
  go_wp2;go_ret2;exact⟨qY HR.out H.out,qB _⟩
 ·
  have hfew:l.length<=64:=by omega
  have HR:Hid (wU zZ (l.take 0) (l.drop 0)=r):=(zf hfew).symm.trans H.out;have hmm:= @run_makeMap Tryz.prog;obtain⟨w1,hw1⟩: ∃ w1,w.alloc (.map #[] 0)=w1:=⟨_,rfl⟩;have HS1:Hid (Zv w1 w.heap.size 0 (fun _=>false)):=by rw[<-hw1];exact je w Tryz.prog 9 4
  have B1:Hid (Bl w w1):=by rw[<-hw1];exact qE (qB _) _
  clear hmany;go_enter Tryz.func47,Tryz.ntmps47
  go_wp2_with fail;clear hw1 hmm;go_loopw [13] (fun i wr=> ∃ (k:Nat) (S:Lit->Bool),(k<=l.length/\i= .int .i64 k)/\Hid (QV ((l.take k).map (·.id)) S/\Zv wr w.heap.size k S)/\Hid (wU zZ (l.take k) (l.drop k)=r)/\Bl w wr) (fun i _=>l.length-(intOf i).toNat)
  case atStart=>exact⟨0,_,⟨qAD _,rfl⟩,⟨Ql,HS1.out⟩,HR,B1.out⟩
  case round=>
   obtain⟨k,S,⟨hk,rfl⟩,HSS,HC,hbl⟩:=hrel;have z1:=hbl.size;by_cases hlt:k<l.length
   ·
    obtain⟨bl',ol,x,rfl,hbs,hx,hc⟩:=HL.out.get hlt hbl hB;have d0:wr.cell? ⟨bl',ol+k*10,none⟩=some (qP x.id):=hc 0 _ rfl;have d1:wr.cell? ⟨bl',ol+k*10+1,none⟩=some (.bool x.week.d0):=hc 1 _ rfl;have d2:wr.cell? ⟨bl',ol+k*10+2,none⟩=some (.bool x.week.d1):=hc 2 _ rfl;have d3:wr.cell? ⟨bl',ol+k*10+3,none⟩=some (.bool x.week.d2):=hc 3 _ rfl;have d4:wr.cell? ⟨bl',ol+k*10+4,none⟩=some (.bool x.week.d3):=hc 4 _ rfl;have d5:wr.cell? ⟨bl',ol+k*10+5,none⟩=some (.bool x.week.d4):=hc 5 _ rfl;have d6:wr.cell? ⟨bl',ol+k*10+6,none⟩=some (.bool x.week.d5):=hc 6 _ rfl;have d7:wr.cell? ⟨bl',ol+k*10+7,none⟩=some (.bool x.week.d6):=hc 7 _ rfl;have d8:wr.cell? ⟨bl',ol+k*10+8,none⟩=some (.int .i64 x.frm):=hc 8 _ rfl;have d9:wr.cell? ⟨bl',ol+k*10+9,none⟩=some (.int .i64 x.to):=hc 9 _ rfl;have hkI:(k:Int)<(l.length:Int):=by omega
    have HX:=qA hx;have hsz:=hs.out x (Uz hx);clear hx hc;obtain⟨p,hp⟩: ∃ p,jU x.id=p:=⟨_,rfl⟩;obtain⟨q,hq⟩: ∃ q,S (.string x.id)=q:=⟨_,rfl⟩;have HP:=qA hp;have HQ:Hid (((l.take k).any fun y=>y.id==x.id)=q):=by show _=_;rw[JS (l.take k) (·.id) HSS.out.1,hq]
    obtain⟨w2,hw2⟩: ∃ w2,wr.alloc (.cells #[qP x.id, .bool x.week.d0, .bool x.week.d1, .bool x.week.d2, .bool x.week.d3, .bool x.week.d4, .bool x.week.d5, .bool x.week.d6, .int .i64 x.frm, .int .i64 x.to] 61)=w2:=⟨_,rfl⟩;have b2:Bl wr w2:=by rw[<-hw2];exact qE (qB _) _
    have t0:w2.cell? ⟨wr.heap.size,0,none⟩=some (qP x.id):=by rw[<-hw2,Uy (hn:=rfl)];rfl
    have t1:w2.cell? ⟨wr.heap.size,1,none⟩=some (.bool x.week.d0):=by rw[<-hw2,Uy (hn:=rfl)];rfl
    have t2:w2.cell? ⟨wr.heap.size,2,none⟩=some (.bool x.week.d1):=by rw[<-hw2,Uy (hn:=rfl)];rfl
    have t3:w2.cell? ⟨wr.heap.size,3,none⟩=some (.bool x.week.d2):=by rw[<-hw2,Uy (hn:=rfl)];rfl
    have t4:w2.cell? ⟨wr.heap.size,4,none⟩=some (.bool x.week.d3):=by rw[<-hw2,Uy (hn:=rfl)];rfl
    have t5:w2.cell? ⟨wr.heap.size,5,none⟩=some (.bool x.week.d4):=by rw[<-hw2,Uy (hn:=rfl)];rfl
    have t6:w2.cell? ⟨wr.heap.size,6,none⟩=some (.bool x.week.d5):=by rw[<-hw2,Uy (hn:=rfl)];rfl
    have t7:w2.cell? ⟨wr.heap.size,7,none⟩=some (.bool x.week.d6):=by rw[<-hw2,Uy (hn:=rfl)];rfl
    have t8:w2.cell? ⟨wr.heap.size,8,none⟩=some (.int .i64 x.frm):=by rw[<-hw2,Uy (hn:=rfl)];rfl
    have t9:w2.cell? ⟨wr.heap.size,9,none⟩=some (.int .i64 x.to):=by rw[<-hw2,Uy (hn:=rfl)];rfl
    have s2:w2.heap.size=wr.heap.size+1:=by rw[<-hw2];simp
    have B2:Hid (Bl w w2):=qF hbl b2;have hset:=HSS.out.2.bl b2;have hlook:=hset.look xM Tryz.underlying166 Tryz.underlying4 (yR w2) (xJ hsz);rw[hq]at hlook;obtain⟨wa,ha1,ha2,ha3⟩:=hset.put xM Tryz.underlying166 Tryz.underlying4 (by unfold maxLen;omega) (xJ hsz);have HA2:=qA ha2;have HA3:=qA ha3;clear hp hq b2 hset ha2 ha3;have hid:=fun w=>Ms.Y6 ⟨x.id.toArray⟩ (by show x.id.toArray.size<=_;rw[List.size_toArray];unfold maxLen;omega) p HP w
    obtain⟨o1,ho1⟩: ∃ o,Yv x.frm=o:=⟨_,rfl⟩;obtain⟨o2,ho2⟩: ∃ o,Yv x.to=o:=⟨_,rfl⟩;have HO1:=qA ho1;have HO2:=qA ho2;have hd1:=fun w=>Da.JB x.frm o1 (by show _=_;rw[ZC,HO1.out]) w
    have hd2:=fun w=>Da.JB x.to o2 (by show _=_;rw[ZC,HO2.out]) w
    clear ho1 ho2;cases p with
    |false=>
     have HE:=qA (qU (err:=zZ) HX.out (show zZ (l.take k) x=12 by unfold zZ;rw[U6 HP.out]) (by decide));go_wp2_with (go_at_call 119;refine(hid _).mono ?_;rintro e w3 ⟨rfl,rfl⟩)
     go_ret2;exact⟨qY HE.out HC.out,B2.out⟩
    |true=>
     have HP1:=qA (show ¬ jU x.id=false by rw[HP.out];decide);cases q with
     |true=>
      have HE:=qA (qU (err:=zZ) HX.out (show zZ (l.take k) x=6 by unfold zZ;rw[U5 HP1.out,U6 HQ.out]) (by decide));go_wp2_with (go_at_call 119;refine(hid _).mono ?_;rintro e w3 ⟨rfl,rfl⟩)
      go_ret2;exact⟨qY HE.out HC.out,B2.out⟩
     |false=>
      have HQ1:=qA (show ¬ ((l.take k).any fun y=>y.id==x.id)=true by rw[HQ.out];decide);go_wp2_with (first
       |(go_at_call 119;refine(hid _).mono ?_;rintro e w3 ⟨rfl,rfl⟩)
       |(go_at_call 121;refine(hd1 _).mono ?_;rintro e w3 ⟨rfl,rfl⟩;cases o1)
       |(go_at_call 121;refine(hd2 _).mono ?_;rintro e w3 ⟨rfl,rfl⟩;cases o2))
      all_goals first
       |
        go_ret2;have HE:=qU (err:=zZ) HX.out (show zZ (l.take k) x=11 by unfold zZ;rw[U5 HP1.out,U5 HQ1.out,U6 (by rw[HO1.out];first|rfl|(rw[HO2.out];first|rfl|(simp;omega)))]) (by decide);exact⟨qY HE HC.out,B2.out⟩
       |have HG:=jS (err:=zZ) HX.out (show zZ (l.take k) x=0 by unfold zZ;rw[U5 HP1.out,U5 HQ1.out,U5 (by rw[HO1.out,HO2.out];simp;omega)])
        exact⟨⟨k+1,_,⟨by omega,by go_num⟩,⟨by rw[KH (·.id) HX.out];exact HSS.out.1.snoc x.id,HA2.out⟩,HG.symm.trans HC.out,B2.out.grown HA3.out (by omega) (fun k hk=>by cases hk;omega)⟩,by simp[intOf];omega⟩
   ·
    have HE:=qA (jy (err:=zZ) (show l.length<=k by omega));go_wp2;go_ret2;exact⟨qY HE.out HC.out,hbl⟩
theorem NI (vl:Value) (ts:List TripD) (stops routes cals:Int) (l:List TripX) (hts:l=ts.map xOf) (r:Int×Int) (H:Hid (qZ 256 (zG stops routes cals) l=r)) (hs:Hid (∀ x∈l,x.id.length<=9223372036854775807)) (B:Nat) (w:World) (hl:vP B w vl ts) (hB:B<=w.heap.size):
  Calls Tryz.prog 51 #[vl, .int .i64 stops, .int .i64 routes, .int .i64 cals] w fun e w'=>e= .returned (.tuple #[.int .i64 r.1, .int .i64 r.2])/\Bl w w':=by
 obtain⟨al,capl,rfl,ll1,ll2⟩:=hl.sl.val;have hlen:l.length=ts.length:=by rw[hts,U4]
 have HL:=qA hl;have HTS:=qA hts;clear hl hts;by_cases hmany:256<ts.length
 ·
  have HR:=qA (zM (err:=zG stops routes cals) (l:=l) (most:=256) (by omega));go_enter Tryz.func51,Tryz.ntmps51
  go_wp2;go_ret2;exact⟨qY HR.out H.out,qB _⟩
 ·
  have hfew:ts.length<=256:=by omega
  have HR:Hid (wU (zG stops routes cals) (l.take 0) (l.drop 0)=r):=(zf (by omega)).symm.trans H.out;have hmm:= @run_makeMap Tryz.prog;obtain⟨w1,hw1⟩: ∃ w1,w.alloc (.map #[] 0)=w1:=⟨_,rfl⟩;have HS1:Hid (Zv w1 w.heap.size 0 (fun _=>false)):=by rw[<-hw1];exact je w Tryz.prog 9 4
  have B1:Hid (Bl w w1):=by rw[<-hw1];exact qE (qB _) _
  clear hmany;go_enter Tryz.func51,Tryz.ntmps51
  go_wp2_with fail;clear hw1 hmm;go_loopw [21] (fun i wr=> ∃ (k:Nat) (S:Lit->Bool),(k<=ts.length/\i= .int .i64 k)/\Hid (QV ((l.take k).map (·.id)) S/\Zv wr w.heap.size k S)/\Hid (wU (zG stops routes cals) (l.take k) (l.drop k)=r)/\Bl w wr) (fun i _=>ts.length-(intOf i).toNat)
  case atStart=>exact⟨0,_,⟨qAD _,rfl⟩,⟨Ql,HS1.out⟩,HR,B1.out⟩
  case round=>
   obtain⟨k,S,⟨hk,rfl⟩,HSS,HC,hbl⟩:=hrel;have z1:=hbl.size;by_cases hlt:k<ts.length
   ·
    obtain⟨bl',ol,x,rfl,hbs,hx,hc⟩:=HL.out.sl.get hlt hbl hB;obtain⟨ax,cx,hvx,-,-⟩:=(HL.out.ok x (Uz hx)).calls.val;obtain⟨xi,hxi⟩: ∃ xi,x.id.data.toList=xi:=⟨_,rfl⟩;have hse:Value.string x.id=qP xi:=by rw[<-hxi]
    have d0:wr.cell? ⟨bl',ol+k*5,none⟩=some (qP xi):=by rw[<-hse];exact hc 0 _ rfl
    have d1:wr.cell? ⟨bl',ol+k*5+1,none⟩=some (.int .i64 x.rt):=hc 1 _ rfl;have d2:wr.cell? ⟨bl',ol+k*5+2,none⟩=some (.int .i64 x.cal):=hc 2 _ rfl;have d3:wr.cell? ⟨bl',ol+k*5+3,none⟩=some (.bool x.step):=hc 3 _ rfl;have d4:wr.cell? ⟨bl',ol+k*5+4,none⟩=some (.slice ax x.calls.length cx):=by rw[<-hvx];exact hc 4 _ rfl
    have hkI:(k:Int)<(ts.length:Int):=by omega
    have HX:Hid (l[k]? =some (xOf x)):=by show _=_;rw[HTS.out,List.getElem?_map,hx];rfl
    have HXI:=qA hxi;have hsz:xi.length<=9223372036854775807:=by have:=hs.out (xOf x) (Uz HX.out);rw[<-hxi];exact this
    have HCI:=qA (show CallsIn B w (.slice ax x.calls.length cx) x.calls by rw[<-hvx];exact(HL.out.ok x (Uz hx)).calls);clear hx hc hse hvx hxi;obtain⟨p,hp⟩: ∃ p,jU xi=p:=⟨_,rfl⟩;obtain⟨q,hq⟩: ∃ q,S (.string xi)=q:=⟨_,rfl⟩;obtain⟨e9,h9⟩: ∃ e,yU stops 0 172800 x.calls=e:=⟨_,rfl⟩;have H9:=qA h9;have HP:=qA hp;have HQ:Hid (((l.take k).any fun y=>y.id==(xOf x).id)=q):=by show _=_;rw[show(xOf x).id=xi from HXI.out,JS (l.take k) (·.id) HSS.out.1,hq]
    obtain⟨w2,hw2⟩: ∃ w2,wr.alloc (.cells #[qP xi, .int .i64 x.rt, .int .i64 x.cal, .bool x.step, .slice ax x.calls.length cx] 56)=w2:=⟨_,rfl⟩;have b2:Bl wr w2:=by rw[<-hw2];exact qE (qB _) _
    have t0:w2.cell? ⟨wr.heap.size,0,none⟩=some (qP xi):=by rw[<-hw2,Uy (hn:=rfl)];rfl
    have t1:w2.cell? ⟨wr.heap.size,1,none⟩=some (.int .i64 x.rt):=by rw[<-hw2,Uy (hn:=rfl)];rfl
    have t2:w2.cell? ⟨wr.heap.size,2,none⟩=some (.int .i64 x.cal):=by rw[<-hw2,Uy (hn:=rfl)];rfl
    have t4:w2.cell? ⟨wr.heap.size,4,none⟩=some (.slice ax x.calls.length cx):=by rw[<-hw2,Uy (hn:=rfl)];rfl
    have s2:w2.heap.size=wr.heap.size+1:=by rw[<-hw2];simp
    have B2:Hid (Bl w w2):=qF hbl b2;have BR2:=qA b2;have hset:=HSS.out.2.bl b2;have hlook:=hset.look xM Tryz.underlying166 Tryz.underlying4 (yR w2) (xJ hsz);rw[hq]at hlook;clear hp hq b2 hset h9;have hid:=fun w=>Ms.Y6 ⟨xi.toArray⟩ (by show xi.toArray.size<=_;rw[List.size_toArray];unfold maxLen;omega) p HP w
    cases p with
    |false=>
     have HE:=qA (qU (err:=zG stops routes cals) HX.out (show zG stops routes cals (l.take k) (xOf x)=12 by unfold zG;rw[show(xOf x).id=xi from HXI.out,U6 HP.out]) (by decide));go_wp2_with (go_at_call 119;refine(hid _).mono ?_;rintro e w3 ⟨rfl,rfl⟩)
     go_ret2;exact⟨qY HE.out HC.out,B2.out⟩
    |true=>
     have HP1:=qA (show ¬ jU (xOf x).id=false by rw[show(xOf x).id=xi from HXI.out,HP.out];decide);cases q with
     |true=>
      have HE:=qA (qU (err:=zG stops routes cals) HX.out (show zG stops routes cals (l.take k) (xOf x)=6 by unfold zG;rw[U5 HP1.out,U6 HQ.out]) (by decide));go_wp2_with (go_at_call 119;refine(hid _).mono ?_;rintro e w3 ⟨rfl,rfl⟩)
      go_ret2;exact⟨qY HE.out HC.out,B2.out⟩
     |false=>
      have HQ1:=qA (show ¬ ((l.take k).any fun y=>y.id==(xOf x).id)=true by rw[HQ.out];decide);by_cases hout:(x.rt<0∨routes<=x.rt)∨(x.cal<0∨cals<=x.cal)
      ·
       have HE:=qA (qU (err:=zG stops routes cals) HX.out (show zG stops routes cals (l.take k) (xOf x)=9 by unfold zG;rw[U5 HP1.out,U5 HQ1.out,U6 (by show(qK x.rt 0 (routes-1)||qK x.cal 0 (cals-1))=true;unfold qK;simp;omega)]) (by decide));go_wp2_with (go_at_call 119;refine(hid _).mono ?_;rintro e w3 ⟨rfl,rfl⟩)
       all_goals first
        |(exfalso;omega)
        |(go_ret2;exact⟨qY HE.out HC.out,B2.out⟩)
      ·
       have HO1:=qA (show ¬ (qK x.rt 0 (routes-1)||qK x.cal 0 (cals-1))=true by unfold qK;simp;omega);have n1:0<=x.rt:=by omega
       have n2:x.rt<routes:=by omega
       have n3:0<=x.cal:=by omega
       have n4:x.cal<cals:=by omega
       have hcc:=Ms.WX (.slice ax x.calls.length cx) x.calls stops 0 172800 e9 H9 B w2 (HCI.out.out B2.out hB) (by omega);go_wp2_with (first
        |(go_at_call 119;refine(hid _).mono ?_;rintro e w3 ⟨rfl,rfl⟩)
        |(go_at_call 122;refine hcc.mono ?_;rintro e w4 ⟨⟨i4,rfl⟩,b4⟩;have t0':w4.cell? ⟨wr.heap.size,0,none⟩=some (qP xi):=((qG b4).1 _ _ (by omega)).trans t0;obtain⟨wa,ha1,ha2,ha3⟩:=(HSS.out.2.bl (qF BR2.out b4)).put xM Tryz.underlying166 Tryz.underlying4 (by unfold maxLen;omega) (xJ hsz);have HA2:=qA ha2;have HA3:=qA ha3;have B4:=qA b4;clear ha2 ha3 b4;rcases Int.lt_trichotomy e9 0 with h0|h0|h0))
       all_goals
        have HTE:zG stops routes cals (l.take k) (xOf x)=e9:=by unfold zG;rw[U5 HP1.out,U5 HQ1.out,U5 (show ¬ (qK (xOf x).route 0 (routes-1)||qK (xOf x).cal 0 (cals-1))=true from HO1.out)];exact H9.out
        have hb4:=B4.out.size;first
         |
          go_ret2;have HE:=qU (err:=zG stops routes cals) HX.out HTE (by omega);exact⟨qY HE HC.out,qF B2.out B4.out⟩
         |have HG:=jS (err:=zG stops routes cals) HX.out (HTE.trans h0)
          exact⟨⟨k+1,_,⟨by omega,by go_num⟩,⟨by rw[KH (·.id) HX.out,show(xOf x).id=xi from HXI.out];exact HSS.out.1.snoc xi,HA2.out⟩,HG.symm.trans HC.out,(qF B2.out B4.out).grown HA3.out (by omega) (fun k hk=>by cases hk;omega)⟩,by simp[intOf];omega⟩
   ·
    have HE:=qA (jy (err:=zG stops routes cals) (show l.length<=k by omega));go_wp2;go_ret2;exact⟨qY HE.out HC.out,hbl⟩
end Go.Proofs.YtakedkcjplfgeaaGreatDoor
namespace Go.Proofs.YtakedkcjplfgeaaGreatDoor
open Go.RowKit Go.Maps
open Go.Maps (Keyed)
open Frq Thr Tt
theorem Wl:laidOutB Tryz.prog=true:=by kernel_rfl
theorem YB:Tryz.prog.cellsOf 3=1:=by kernel_rfl
theorem rX:Tryz.prog.cellsOf 4=1:=by kernel_rfl
theorem YN: ∃ n,Tryz.prog.types.size=n+1:=by
 have h:0<Tryz.prog.types.size:=by decide+kernel
 exact⟨Tryz.prog.types.size-1,by omega⟩
theorem Y0:Keyed Tryz.prog 169:=Keyed.of_law (deep_law_laid Wl (m:=5) (by omega) (by decide+kernel) (by kernel_rfl) (by kernel_rfl))
def dI (x:Int×Int):Value:= .agg #[.int .i64 x.1, .int .i64 x.2]
def JY (x:Int×Int):Prop:=zB x.1/\zB x.2
theorem CW:Tryz.prog.keyType 169=true:=by kernel_rfl
theorem XU:Tryz.prog.cellsOf 169=2:=by kernel_rfl
theorem FX {x:Int×Int} (h:JY x): ∃ kl,keyOf Tryz.prog 169 (dI x)=some kl:=by
 obtain⟨n,hn⟩:=YN;have w0:=Z8 h.1;have w1:=Z8 h.2;unfold keyOf dI;rw[Tryz.underlying169];simp only[CW,Value.formed,Tryz.underlying169,XU,hn];simp[Program.keyLits,Tryz.underlying169,Tryz.underlying3,show List.range 2=[0,1] from rfl,XU,YB,w0,w1,Value.cells]
def sO (gk:Int×Int->Lit):Prop:= ∀ x,JY x->keyOf Tryz.prog 169 (dI x)=some (gk x)
theorem CV: ∃ gk,sO gk:=by
 have h: ∀ x:Int×Int,∃ kl,JY x->keyOf Tryz.prog 169 (dI x)=some kl:=fun x=>by
  by_cases hx:JY x
  ·
   obtain⟨kl,hk⟩:=FX hx;exact⟨kl,fun _=>hk⟩
  · exact⟨.bool false,fun h=>absurd h hx⟩
 exact⟨fun x=>Classical.choose (h x),fun x hx=>Classical.choose_spec (h x) hx⟩
theorem sQ {gk:Int×Int->Lit} (K:sO gk) {x y:Int×Int} (hx:JY x) (hy:JY y) (h:gk x=gk y):x=y:=by
 have:=Y0.inj (K x hx) (h ▸ K y hy);cases x
 cases y
 simpa[dI,Prod.ext_iff]using this
def gQ (gk:Int×Int->Lit) (l:List (Int×Int)) (S:Lit->Bool):Prop:= ∀ x:Int×Int,JY x->S (gk x)=l.any fun y=>y==x
theorem gU {gk:Int×Int->Lit} (K:sO gk) {l:List (Int×Int)} {S:Lit->Bool} {x:Int×Int} (h:gQ gk l S) (hk:JY x):gQ gk (l++[x]) (wY S (gk x)):=fun y hy=>by
 by_cases e:y=x
 · rw[e,xq _ (Y0.key (K x hk))];simp
 · rw[xu (fun e'=>e (sQ K hy hk e')),h y hy,List.any_append,List.any_cons,List.any_nil,Bool.or_false,show(x==y)=false by rw[U0];exact fun e'=>e e'.symm,Bool.or_false]
abbrev Po (w:World) (b n:Nat) (S:Lit->Bool):Prop:=jE w Tryz.prog 169 4 b n S
theorem YI:Keyed Tryz.prog 221:=Keyed.of_law (deep_law_laid Wl (m:=5) (by omega) (by decide+kernel) (by kernel_rfl) (by kernel_rfl))
def Vo (x:Int×Int×Bool):Value:= .agg #[.int .i64 x.1, .int .i64 x.2.1, .bool x.2.2]
def Q4 (x:Int×Int×Bool):Prop:=zB x.1/\zB x.2.1
theorem uV:Tryz.prog.keyType 221=true:=by kernel_rfl
theorem V8:Tryz.prog.cellsOf 221=3:=by kernel_rfl
theorem Dh {x:Int×Int×Bool} (h:Q4 x): ∃ kl,keyOf Tryz.prog 221 (Vo x)=some kl:=by
 obtain⟨n,hn⟩:=YN;have w0:=Z8 h.1;have w1:=Z8 h.2;unfold keyOf Vo;rw[Tryz.underlying221];simp only[uV,Value.formed,Tryz.underlying221,V8,hn];simp[Program.keyLits,Tryz.underlying221,Tryz.underlying3,Tryz.underlying4,rX,V8,YB,w0,w1,Value.cells]
def iE (gk:Int×Int×Bool->Lit):Prop:= ∀ x,Q4 x->keyOf Tryz.prog 221 (Vo x)=some (gk x)
theorem uU: ∃ gk,iE gk:=by
 have h: ∀ x:Int×Int×Bool,∃ kl,Q4 x->keyOf Tryz.prog 221 (Vo x)=some kl:=fun x=>by
  by_cases hx:Q4 x
  ·
   obtain⟨kl,hk⟩:=Dh hx;exact⟨kl,fun _=>hk⟩
  · exact⟨.bool false,fun h=>absurd h hx⟩
 exact⟨fun x=>Classical.choose (h x),fun x hx=>Classical.choose_spec (h x) hx⟩
theorem oD {gk:Int×Int×Bool->Lit} (K:iE gk) {x y:Int×Int×Bool} (hx:Q4 x) (hy:Q4 y) (h:gk x=gk y):x=y:=by
 have:=YI.inj (K x hx) (h ▸ K y hy);cases x
 cases y
 simpa[Vo,Prod.ext_iff]using this
def X0 (gk:Int×Int×Bool->Lit) (l:List (Int×Int×Bool)) (S:Lit->Bool):Prop:= ∀ x:Int×Int×Bool,Q4 x->S (gk x)=l.any fun y=>y==x
theorem bK {gk:Int×Int×Bool->Lit} (K:iE gk) {l:List (Int×Int×Bool)} {S:Lit->Bool} {x:Int×Int×Bool} (h:X0 gk l S) (hk:Q4 x):X0 gk (l++[x]) (wY S (gk x)):=fun y hy=>by
 by_cases e:y=x
 · rw[e,xq _ (YI.key (K x hk))];simp
 · rw[xu (fun e'=>e (oD K hy hk e')),h y hy,List.any_append,List.any_cons,List.any_nil,Bool.or_false,show(x==y)=false by rw[U0];exact fun e'=>e e'.symm,Bool.or_false]
abbrev Ov (w:World) (b n:Nat) (S:Lit->Bool):Prop:=jE w Tryz.prog 221 4 b n S
end Go.Proofs.YtakedkcjplfgeaaGreatDoor
namespace Go.Proofs.YtakedkcjplfgeaaGreatDoor
open Go.RowKit
open Frq Thr Tt
theorem OJ (vl:Value) (l:List Yk) (calendars:Int) (r:Int×Int) (H:Hid (qZ 256 (jd calendars) l=r)) (hok:Hid (∀ x∈l,zB x.cal/\zB x.day)) (B:Nat) (w:World) (hl:jA kE 3 B w vl l) (hB:B<=w.heap.size):
  Calls Tryz.prog 49 #[vl, .int .i64 calendars] w fun e w'=>e= .returned (.tuple #[.int .i64 r.1, .int .i64 r.2])/\Bl w w':=by
 obtain⟨gk,KG⟩:=CV;obtain⟨al,capl,rfl,ll1,ll2⟩:=hl.val;have HL:=qA hl;clear hl;by_cases hmany:256<l.length
 ·
  have HR:=qA (zM (err:=(jd calendars)) hmany);go_enter Tryz.func49,Tryz.ntmps49
  go_wp2;go_ret2;exact⟨qY HR.out H.out,qB _⟩
 ·
  have hfew:l.length<=256:=by omega
  have HR:Hid (wU (jd calendars) (l.take 0) (l.drop 0)=r):=(zf hfew).symm.trans H.out;have hmm:= @run_makeMap Tryz.prog;obtain⟨w1,hw1⟩: ∃ w1,w.alloc (.map #[] 0)=w1:=⟨_,rfl⟩;have HS1:Hid (jE w1 Tryz.prog 169 4 w.heap.size 0 (fun _=>false)):=by rw[<-hw1];exact je w Tryz.prog 169 4
  have B1:Hid (Bl w w1):=by rw[<-hw1];exact qE (qB _) _
  clear hmany;go_enter Tryz.func49,Tryz.ntmps49
  go_wp2_with fail;clear hw1 hmm;go_loopw [16] (fun i wr=> ∃ (k:Nat) (S:Lit->Bool),(k<=l.length/\i= .int .i64 k)/\Hid (gQ gk ((l.take k).map fun y=>(y.cal,y.day)) S/\Po wr w.heap.size k S)/\Hid (wU (jd calendars) (l.take k) (l.drop k)=r)/\Bl w wr) (fun i _=>l.length-(intOf i).toNat)
  case atStart=>exact⟨0,_,⟨qAD _,rfl⟩,⟨fun _ _=>rfl,HS1.out⟩,HR,B1.out⟩
  case round=>
   obtain⟨k,S,⟨hk,rfl⟩,HSS,HC,hbl⟩:=hrel;have z1:=hbl.size;by_cases hlt:k<l.length
   ·
    obtain⟨bl',ol,x,rfl,hbs,hx,hc⟩:=HL.out.get hlt hbl hB;have d0:wr.cell? ⟨bl',ol+k*3,none⟩=some (.int .i64 x.cal):=hc 0 _ rfl;have d1:wr.cell? ⟨bl',ol+k*3+1,none⟩=some (.int .i64 x.day):=hc 1 _ rfl;have d2:wr.cell? ⟨bl',ol+k*3+2,none⟩=some (.bool x.added):=hc 2 _ rfl;have hkI:(k:Int)<(l.length:Int):=by omega
    have HX:=qA hx;have HOK:=qA (hok.out x (Uz hx));have HKO:Hid (JY ((x.cal,x.day))):=⟨HOK.out.1,HOK.out.2⟩;clear hx hc;obtain⟨q,hq⟩: ∃ q,S (gk ((x.cal,x.day)))=q:=⟨_,rfl⟩;have HQ:Hid (((l.take k).any fun y=>y.cal==x.cal&&y.day==x.day)=q):=by
     show _=_
     rw[<-hq,HSS.out.1 _ HKO.out,List.any_map];refine congrArg (fun f=>(l.take k).any f) (funext fun y=>?_);simp only[Function.comp];rw[Bool.eq_iff_iff];simp[Prod.ext_iff]
    have HQQ:=qA hq;clear hq;obtain⟨w2,hw2⟩: ∃ w2,wr.alloc (.cells #[.int .i64 x.cal, .int .i64 x.day, .bool x.added] 124)=w2:=⟨_,rfl⟩;obtain⟨w3,hw3⟩: ∃ w3,w2.alloc (.cells #[.int .i64 x.cal, .int .i64 x.day] 169)=w3:=⟨_,rfl⟩;have b2:Bl wr w2:=by rw[<-hw2];exact qE (qB _) _
    have b3:Bl wr w3:=by rw[<-hw3];exact qE b2 _
    have s2:w2.heap.size=wr.heap.size+1:=by rw[<-hw2];simp
    have s3:w3.heap.size=wr.heap.size+2:=by rw[<-hw3];simp[s2]
    have t0:w2.cell? ⟨wr.heap.size,0,none⟩=some (.int .i64 x.cal):=by rw[<-hw2,Uy (hn:=rfl)];rfl
    have t1:w2.cell? ⟨wr.heap.size,1,none⟩=some (.int .i64 x.day):=by rw[<-hw2,Uy (hn:=rfl)];rfl
    have b23:Bl w2 w3:=by rw[<-hw3];exact qE (qB _) _
    have t0':w3.cell? ⟨wr.heap.size,0,none⟩=some (.int .i64 x.cal):=((qG b23).1 _ _ (by omega)).trans t0;have t1':w3.cell? ⟨wr.heap.size,1,none⟩=some (.int .i64 x.day):=((qG b23).1 _ _ (by omega)).trans t1;have k0:w3.cell? ⟨wr.heap.size+1,0,none⟩=some (.int .i64 x.cal):=by rw[<-s2,<-hw3,Uy (hn:=rfl)];rfl
    have k1:w3.cell? ⟨wr.heap.size+1,1,none⟩=some (.int .i64 x.day):=by rw[<-s2,<-hw3,Uy (hn:=rfl)];rfl
    have B3:Hid (Bl w w3):=qF hbl b3;have hset:=HSS.out.2.bl b3;have hlook:=hset.look Y0 Tryz.underlying168 Tryz.underlying4 (yR w3) (KG _ HKO.out);rw[HQQ.out]at hlook;obtain⟨wa,ha1,ha2,ha3⟩:=hset.put Y0 Tryz.underlying168 Tryz.underlying4 (by unfold maxLen;omega) (KG _ HKO.out);simp only[dI]at hlook ha1;have HA2:=qA ha2;have HA3:=qA ha3;obtain⟨o,ho⟩: ∃ o,Yv x.day=o:=⟨_,rfl⟩;have HO:=qA ho;have hd:=fun w=>Da.JB x.day o (by show _=_;rw[ZC,HO.out]) w
    clear b2 b3 b23 hset ha2 ha3 ho;go_wp2_with (go_at_call 121;refine(hd _).mono ?_;rintro e w4 ⟨rfl,rfl⟩;cases o<;>cases q)
    all_goals first
     |
      go_ret2;have HE:=qU (err:=jd calendars) (e:=9) HX.out (by unfold jd;rw[U6 (by unfold qK;simp;omega)]) (by decide);exact⟨qY HE HC.out,B3.out⟩
     |
      go_ret2;have HE:=qU (err:=jd calendars) (e:=11) HX.out (by unfold jd;rw[U5 (by unfold qK;simp;omega),U6 HO.out]) (by decide);exact⟨qY HE HC.out,B3.out⟩
     |
      go_ret2;have HE:=qU (err:=jd calendars) (e:=6) HX.out (by unfold jd;rw[U5 (by unfold qK;simp;omega),U5 (by rw[HO.out];decide),U6 HQ.out]) (by decide);exact⟨qY HE HC.out,B3.out⟩
     |have HG:=jS (err:=jd calendars) HX.out (by unfold jd;rw[U5 (by unfold qK;simp;omega),U5 (by rw[HO.out];decide),U5 (by rw[HQ.out];decide)])
      exact⟨⟨k+1,_,⟨by omega,by go_num⟩,⟨by rw[ql HX.out,List.map_append];exact gU KG HSS.out.1 HKO.out,HA2.out⟩,HG.symm.trans HC.out,B3.out.grown HA3.out (by omega) (fun k hk=>by cases hk;omega)⟩,by simp[intOf];omega⟩
   ·
    have HE:=qA (jy (err:=(jd calendars)) (show l.length<=k by omega));go_wp2;go_ret2;exact⟨qY HE.out HC.out,hbl⟩
theorem Hg (vl:Value) (l:List Qq) (stops:Int) (r:Int×Int) (H:Hid (wU (zO stops) (l.take 0) (l.drop 0)=r)) (hok:Hid (∀ x∈l,zB x.frm/\zB x.to)) (B:Nat) (w:World) (hl:jA zt 4 B w vl l) (hB:B<=w.heap.size):
  Calls Tryz.prog 130 #[vl, .int .i64 stops] w fun e w'=>e= .returned (.tuple #[.int .i64 r.1, .int .i64 r.2])/\Bl w w':=by
 obtain⟨gk,KG⟩:=uU;obtain⟨al,capl,rfl,ll1,ll2⟩:=hl.val;have HL:=qA hl;clear hl
 ·
  have HR:Hid (wU (zO stops) (l.take 0) (l.drop 0)=r):=H.out;have hmm:= @run_makeMap Tryz.prog;obtain⟨w1,hw1⟩: ∃ w1,w.alloc (.map #[] 0)=w1:=⟨_,rfl⟩;have HS1:Hid (jE w1 Tryz.prog 221 4 w.heap.size 0 (fun _=>false)):=by rw[<-hw1];exact je w Tryz.prog 221 4
  have B1:Hid (Bl w w1):=by rw[<-hw1];exact qE (qB _) _
  go_enter Tryz.func130,Tryz.ntmps130
  go_wp2_with fail;clear hw1 hmm;go_loopw [13] (fun i wr=> ∃ (k:Nat) (S:Lit->Bool),(k<=l.length/\i= .int .i64 k)/\Hid (X0 gk ((l.take k).map fun y=>(y.frm,y.to,y.free)) S/\Ov wr w.heap.size k S)/\Hid (wU (zO stops) (l.take k) (l.drop k)=r)/\Bl w wr) (fun i _=>l.length-(intOf i).toNat)
  case atStart=>exact⟨0,_,⟨qAD _,rfl⟩,⟨fun _ _=>rfl,HS1.out⟩,HR,B1.out⟩
  case round=>
   obtain⟨k,S,⟨hk,rfl⟩,HSS,HC,hbl⟩:=hrel;have z1:=hbl.size;by_cases hlt:k<l.length
   ·
    obtain⟨bl',ol,x,rfl,hbs,hx,hc⟩:=HL.out.get hlt hbl hB;have d0:wr.cell? ⟨bl',ol+k*4,none⟩=some (.int .i64 x.frm):=hc 0 _ rfl;have d1:wr.cell? ⟨bl',ol+k*4+1,none⟩=some (.int .i64 x.to):=hc 1 _ rfl;have d2:wr.cell? ⟨bl',ol+k*4+2,none⟩=some (.int .i64 x.secs):=hc 2 _ rfl;have d3:wr.cell? ⟨bl',ol+k*4+3,none⟩=some (.bool x.free):=hc 3 _ rfl;have hkI:(k:Int)<(l.length:Int):=by omega
    have HX:=qA hx;have HOK:=qA (hok.out x (Uz hx));have HKO:Hid (Q4 ((x.frm,x.to,x.free))):=⟨HOK.out.1,HOK.out.2⟩;clear hx hc;obtain⟨q,hq⟩: ∃ q,S (gk ((x.frm,x.to,x.free)))=q:=⟨_,rfl⟩;have HQ:Hid (((l.take k).any fun y=>y.frm==x.frm&&(y.to==x.to&&y.free==x.free))=q):=by
     show _=_
     rw[<-hq,HSS.out.1 _ HKO.out,List.any_map];refine congrArg (fun f=>(l.take k).any f) (funext fun y=>?_);simp only[Function.comp];rw[Bool.eq_iff_iff];simp[Prod.ext_iff]
    have HQQ:=qA hq;clear hq;obtain⟨w2,hw2⟩: ∃ w2,wr.alloc (.cells #[.int .i64 x.frm, .int .i64 x.to, .int .i64 x.secs, .bool x.free] 63)=w2:=⟨_,rfl⟩;obtain⟨w3,hw3⟩: ∃ w3,w2.alloc (.cells #[.int .i64 x.frm, .int .i64 x.to, .bool x.free] 221)=w3:=⟨_,rfl⟩;have b2:Bl wr w2:=by rw[<-hw2];exact qE (qB _) _
    have b3:Bl wr w3:=by rw[<-hw3];exact qE b2 _
    have s2:w2.heap.size=wr.heap.size+1:=by rw[<-hw2];simp
    have s3:w3.heap.size=wr.heap.size+2:=by rw[<-hw3];simp[s2]
    have t0:w2.cell? ⟨wr.heap.size,0,none⟩=some (.int .i64 x.frm):=by rw[<-hw2,Uy (hn:=rfl)];rfl
    have t1:w2.cell? ⟨wr.heap.size,1,none⟩=some (.int .i64 x.to):=by rw[<-hw2,Uy (hn:=rfl)];rfl
    have t2:w2.cell? ⟨wr.heap.size,2,none⟩=some (.int .i64 x.secs):=by rw[<-hw2,Uy (hn:=rfl)];rfl
    have t3:w2.cell? ⟨wr.heap.size,3,none⟩=some (.bool x.free):=by rw[<-hw2,Uy (hn:=rfl)];rfl
    have b23:Bl w2 w3:=by rw[<-hw3];exact qE (qB _) _
    have t0':w3.cell? ⟨wr.heap.size,0,none⟩=some (.int .i64 x.frm):=((qG b23).1 _ _ (by omega)).trans t0;have t1':w3.cell? ⟨wr.heap.size,1,none⟩=some (.int .i64 x.to):=((qG b23).1 _ _ (by omega)).trans t1;have t2':w3.cell? ⟨wr.heap.size,2,none⟩=some (.int .i64 x.secs):=((qG b23).1 _ _ (by omega)).trans t2;have k0:w3.cell? ⟨wr.heap.size+1,0,none⟩=some (.int .i64 x.frm):=by rw[<-s2,<-hw3,Uy (hn:=rfl)];rfl
    have k1:w3.cell? ⟨wr.heap.size+1,1,none⟩=some (.int .i64 x.to):=by rw[<-s2,<-hw3,Uy (hn:=rfl)];rfl
    have k2:w3.cell? ⟨wr.heap.size+1,2,none⟩=some (.bool x.free):=by rw[<-s2,<-hw3,Uy (hn:=rfl)];rfl
    have B3:Hid (Bl w w3):=qF hbl b3;have hset:=HSS.out.2.bl b3;have hlook:=hset.look YI Tryz.underlying219 Tryz.underlying4 (yR w3) (KG _ HKO.out);rw[HQQ.out]at hlook;obtain⟨wa,ha1,ha2,ha3⟩:=hset.put YI Tryz.underlying219 Tryz.underlying4 (by unfold maxLen;omega) (KG _ HKO.out);simp only[Vo]at hlook ha1;have HA2:=qA ha2;have HA3:=qA ha3;clear b2 b3 b23 hset ha2 ha3;have hP: ∀ e,zO stops (l.take k) x=e->Hid (zO stops (l.take k) x=e):=fun e h=>h
    by_cases h9:(x.frm<0∨stops<=x.frm)∨(x.to<0∨stops<=x.to)∨x.frm=x.to
    ·
     have HE:=qA (qU (err:=zO stops) (e:=9) HX.out (by unfold zO;rw[U6 (by unfold qK;simp;omega)]) (by decide));by_cases hft:x.frm=x.to
     ·
      have hft':(x.frm==x.to)=true:=by simp[hft]
      clear h9 hft;go_wp2_with fail;all_goals first
       |(go_ret2;exact⟨qY HE.out HC.out,B3.out⟩)
       |(exfalso;omega)
     ·
      have hft':(x.frm==x.to)=false:=by simp[hft]
      go_wp2_with fail;all_goals first
       |(exfalso;omega)
       |(go_ret2;exact⟨qY HE.out HC.out,B3.out⟩)
    ·
     have n1:0<=x.frm:=by omega
     have n2:x.frm<stops:=by omega
     have n3:0<=x.to:=by omega
     have n4:x.to<stops:=by omega
     have hft':(x.frm==x.to)=false:=by simp;omega
     have H9:=qA (show ¬ (qK x.frm 0 (stops-1)||(qK x.to 0 (stops-1)||x.frm==x.to))=true by unfold qK;simp;omega);clear h9;cases q with
     |true=>
      go_wp2_with fail;all_goals first
       |
        go_ret2;have HE:=qU (err:=zO stops) (e:=2) HX.out (by unfold zO;rw[U5 H9.out,U6 (by unfold qK;simp;omega)]) (by decide);exact⟨qY HE HC.out,B3.out⟩
       |
        go_ret2;have HE:=qU (err:=zO stops) (e:=6) HX.out (by unfold zO;rw[U5 H9.out,U5 (by unfold qK;simp;omega),U6 HQ.out]) (by decide);exact⟨qY HE HC.out,B3.out⟩
     |false=>
      go_wp2_with fail;all_goals first
       |
        go_ret2;have HE:=qU (err:=zO stops) (e:=2) HX.out (by unfold zO;rw[U5 H9.out,U6 (by unfold qK;simp;omega)]) (by decide);exact⟨qY HE HC.out,B3.out⟩
       |have HG:=jS (err:=zO stops) HX.out (by unfold zO;rw[U5 H9.out,U5 (by unfold qK;simp;omega),U5 (by rw[HQ.out];decide)])
        exact⟨⟨k+1,_,⟨by omega,by go_num⟩,⟨by rw[ql HX.out,List.map_append];exact bK KG HSS.out.1 HKO.out,HA2.out⟩,HG.symm.trans HC.out,B3.out.grown HA3.out (by omega) (fun k hk=>by cases hk;omega)⟩,by simp[intOf];omega⟩
   ·
    have HE:=qA (jy (err:=(zO stops)) (show l.length<=k by omega));go_wp2;go_ret2;exact⟨qY HE.out HC.out,hbl⟩
theorem MM (vl:Value) (l:List Qq) (stops:Int) (r:Int×Int) (H:Hid (qZ 512 (zO stops) l=r)) (hok:Hid (∀ x∈l,zB x.frm/\zB x.to)) (B:Nat) (w:World) (hl:jA zt 4 B w vl l) (hB:B<=w.heap.size):
  Calls Tryz.prog 59 #[vl, .int .i64 stops] w fun e w'=>e= .returned (.tuple #[.int .i64 r.1, .int .i64 r.2])/\Bl w w':=by
 obtain⟨al,capl,rfl,ll1,ll2⟩:=hl.val;by_cases hmany:512<l.length
 ·
  have HR:=qA (zM (err:=zO stops) hmany);go_enter Tryz.func59,Tryz.ntmps59
  go_wp2;go_ret2;exact⟨qY HR.out H.out,qB _⟩
 ·
  have hfew:l.length<=512:=by omega
  have hc:=Hg _ l stops r ((zf hfew).symm.trans H.out) hok B w hl hB;clear hmany;go_enter Tryz.func59,Tryz.ntmps59
  go_wp2_with (go_at_call 130;refine hc.mono ?_;rintro e w1 ⟨rfl,b1⟩;have HB1:=qA b1;clear b1)
  go_ret2;exact⟨rfl,HB1.out⟩
theorem Ib (n lo hi:Int) (w:World):Calls Tryz.prog 131 #[.int .i64 n, .int .i64 lo, .int .i64 hi] w fun e w'=>e= .returned (.bool (!qK n lo hi))/\w=w':=by
 have h:(n<lo/\qK n lo hi=true)∨(lo<=n/\n<=hi/\qK n lo hi=false)∨(lo<=n/\hi<n/\qK n lo hi=true):=by
  unfold qK;by_cases h0:n<lo
  · exact .inl ⟨h0,by simp[h0]⟩
  ·
   by_cases h1:n<=hi
   · exact .inr (.inl ⟨by omega,h1,by simp;omega⟩)
   · exact .inr (.inr ⟨by omega,by omega,by simp;omega⟩)
 rcases h with⟨h1,h⟩|⟨h1,h2,h⟩|⟨h1,h2,h⟩
 all_goals
  rw[h];clear h;go_enter Tryz.func131,Tryz.ntmps131
  go_wp2;go_ret;exact⟨qO (by first|rfl|(simp;omega)),rfl⟩
theorem yl {n lo hi:Int} {o:Bool} (H:Hid (qK n lo hi=o)) (w:World):Calls Tryz.prog 131 #[.int .i64 n, .int .i64 lo, .int .i64 hi] w fun e w'=>e= .returned (.bool (!o))/\w=w':=by
 rw[<-H.out];exact Ib n lo hi w
theorem MR (vl:Value) (f:Jp) (r:Int×Int) (H:Hid (vF f=r)) (hs:Hid (∀ x∈f.prods,x.id.length<=9223372036854775807)) (B:Nat) (w:World) (hl:jA zu 6 B w vl f.prods) (hB:B<=w.heap.size):
  Calls Tryz.prog 61 #[FZ vl f] w fun e w'=>e= .returned (.tuple #[.int .i64 r.1, .int .i64 r.2])/\Bl w w':=by
 obtain⟨al,capl,rfl,ll1,ll2⟩:=hl.val;obtain⟨l,disc,wit,cap⟩:=f;have hl:jA zu 6 B w (.slice al l.length capl) l:=hl;have hs:Hid (∀ x∈l,x.id.length<=9223372036854775807):=hs;have ll1:l.length<=capl:=ll1;have HL:=qA hl;clear hl;obtain⟨o1,h1⟩: ∃ o,qK disc 0 1000000=o:=⟨_,rfl⟩;obtain⟨o2,h2⟩: ∃ o,qK wit 0 86400=o:=⟨_,rfl⟩;obtain⟨o3,h3⟩: ∃ o,qK cap 0 1000000=o:=⟨_,rfl⟩;have H1:=qA h1;have H2:=qA h2;have H3:=qA h3;obtain⟨w0,hw0⟩: ∃ w0,w.alloc (.cells #[.slice al l.length capl, .int .i64 disc, .int .i64 wit, .int .i64 cap] 34)=w0:=⟨_,rfl⟩;have b0:Bl w w0:=by rw[<-hw0];exact qE (qB _) _
 have s0:w0.heap.size=w.heap.size+1:=by rw[<-hw0];simp
 have f0:w0.cell? ⟨w.heap.size,0,none⟩=some (.slice al l.length capl):=by rw[<-hw0,Uy (hn:=rfl)];rfl
 have f1:w0.cell? ⟨w.heap.size,1,none⟩=some (.int .i64 disc):=by rw[<-hw0,Uy (hn:=rfl)];rfl
 have f2:w0.cell? ⟨w.heap.size,2,none⟩=some (.int .i64 wit):=by rw[<-hw0,Uy (hn:=rfl)];rfl
 have f3:w0.cell? ⟨w.heap.size,3,none⟩=some (.int .i64 cap):=by rw[<-hw0,Uy (hn:=rfl)];rfl
 have HB0:=qA b0;clear h1 h2 h3 b0;by_cases hbad:(o1||(o2||o3))=true
 ·
  have HR:=qA (show((-1:Int),(2:Int))=r by rw[<-H.out];unfold vF;rw[U6 (by show(qK disc 0 1000000||(qK wit 0 86400||qK cap 0 1000000))=true;rw[H1.out,H2.out,H3.out];exact hbad)]);show Calls Tryz.prog _ #[.agg #[.slice al l.length capl, .int .i64 disc, .int .i64 wit, .int .i64 cap]] w _
  go_enter Tryz.func61,Tryz.ntmps61
  cases o1<;>cases o2<;>cases o3
  all_goals first
   |(exact absurd hbad (by decide))
   |
    go_wp2_with (first
     |(go_at_call 131;(with_reducible refine(yl H1 _).mono ?_);rintro e w3 ⟨rfl,rfl⟩)
     |(go_at_call 131;(with_reducible refine(yl H2 _).mono ?_);rintro e w3 ⟨rfl,rfl⟩)
     |(go_at_call 131;(with_reducible refine(yl H3 _).mono ?_);rintro e w3 ⟨rfl,rfl⟩))
    go_ret2;exact⟨qY rfl HR.out,HB0.out⟩
 ·
  have H123:o1=false/\o2=false/\o3=false:=by cases o1<;>cases o2<;>cases o3<;>simp_all
  obtain⟨rfl,rfl,rfl⟩:=H123;have HC0:Hid (qZ 16 zQ l=r):=by show _=_;rw[<-H.out];unfold vF;rw[U5 (by show ¬ (qK disc 0 1000000||(qK wit 0 86400||qK cap 0 1000000))=true;rw[H1.out,H2.out,H3.out];decide)]
  clear hbad;show Calls Tryz.prog _ #[.agg #[.slice al l.length capl, .int .i64 disc, .int .i64 wit, .int .i64 cap]] w _
  by_cases hmany:16<l.length
  ·
   have HR:=qA (zM (err:=zQ) hmany);go_enter Tryz.func61,Tryz.ntmps61
   go_wp2_with (first
     |(go_at_call 131;(with_reducible refine(yl H1 _).mono ?_);rintro e w3 ⟨rfl,rfl⟩)
     |(go_at_call 131;(with_reducible refine(yl H2 _).mono ?_);rintro e w3 ⟨rfl,rfl⟩)
     |(go_at_call 131;(with_reducible refine(yl H3 _).mono ?_);rintro e w3 ⟨rfl,rfl⟩))
   go_ret2;exact⟨qY HR.out HC0.out,HB0.out⟩
  ·
   have hfew:l.length<=16:=by omega
   have HR:Hid (wU zQ (l.take 0) (l.drop 0)=r):=(zf hfew).symm.trans HC0.out;have hmm:= @run_makeMap Tryz.prog;obtain⟨w1,hw1⟩: ∃ w1,w0.alloc (.map #[] 0)=w1:=⟨_,rfl⟩;have HS1:Hid (Zv w1 w0.heap.size 0 (fun _=>false)):=by rw[<-hw1];exact je w0 Tryz.prog 9 4
   have b1:Bl w0 w1:=by rw[<-hw1];exact qE (qB _) _
   have g0:w1.cell? ⟨w.heap.size,0,none⟩=some (.slice al l.length capl):=((qG b1).1 _ _ (by omega)).trans f0;have B1:Hid (Bl w w1):=qF HB0.out b1;clear hmany b1;go_enter Tryz.func61,Tryz.ntmps61
   go_wp2_with (first
     |(go_at_call 131;(with_reducible refine(yl H1 _).mono ?_);rintro e w3 ⟨rfl,rfl⟩)
     |(go_at_call 131;(with_reducible refine(yl H2 _).mono ?_);rintro e w3 ⟨rfl,rfl⟩)
     |(go_at_call 131;(with_reducible refine(yl H3 _).mono ?_);rintro e w3 ⟨rfl,rfl⟩))
   rw[s0]at HS1;clear hw1 hmm hw0 f0 f1 f2 f3 g0;go_loopw [31] (fun i wr=> ∃ (k:Nat) (S:Lit->Bool),(k<=l.length/\i= .int .i64 k)/\Hid (QV ((l.take k).map (·.id)) S/\Zv wr (w.heap.size+1) k S)/\Hid (wU zQ (l.take k) (l.drop k)=r)/\Bl w wr) (fun i _=>l.length-(intOf i).toNat)
   case atStart=>exact⟨0,_,⟨qAD _,rfl⟩,⟨Ql,HS1.out⟩,HR,B1.out⟩
   case round=>
    obtain⟨k,S,⟨hk,rfl⟩,HSS,HC,hbl⟩:=hrel;have z1:=hbl.size;by_cases hlt:k<l.length
    ·
     obtain⟨bl',ol,x,rfl,hbs,hx,hc⟩:=HL.out.get hlt hbl hB;have d0:wr.cell? ⟨bl',ol+k*6,none⟩=some (qP x.id):=hc 0 _ rfl;have d1:wr.cell? ⟨bl',ol+k*6+1,none⟩=some (.int .i64 x.price):=hc 1 _ rfl;have d2:wr.cell? ⟨bl',ol+k*6+2,none⟩=some (.int .i64 x.rides):=hc 2 _ rfl;have d3:wr.cell? ⟨bl',ol+k*6+3,none⟩=some (.int .i64 x.zones):=hc 3 _ rfl;have d4:wr.cell? ⟨bl',ol+k*6+4,none⟩=some (.int .i64 x.secs):=hc 4 _ rfl;have d5:wr.cell? ⟨bl',ol+k*6+5,none⟩=some (.int .i64 x.modes):=hc 5 _ rfl;have hkI:(k:Int)<(l.length:Int):=by omega
     have HX:=qA hx;have hsz:=hs.out x (Uz hx);clear hx hc;obtain⟨p,hp⟩: ∃ p,jU x.id=p:=⟨_,rfl⟩;obtain⟨q,hq⟩: ∃ q,S (.string x.id)=q:=⟨_,rfl⟩;have HP:=qA hp;have HQ:Hid (((l.take k).any fun y=>y.id==x.id)=q):=by show _=_;rw[JS (l.take k) (·.id) HSS.out.1,hq]
     obtain⟨w2,hw2⟩: ∃ w2,wr.alloc (.cells #[qP x.id, .int .i64 x.price, .int .i64 x.rides, .int .i64 x.zones, .int .i64 x.secs, .int .i64 x.modes] 65)=w2:=⟨_,rfl⟩;have b2:Bl wr w2:=by rw[<-hw2];exact qE (qB _) _
     have t0:w2.cell? ⟨wr.heap.size,0,none⟩=some (qP x.id):=by rw[<-hw2,Uy (hn:=rfl)];rfl
     have t1:w2.cell? ⟨wr.heap.size,1,none⟩=some (.int .i64 x.price):=by rw[<-hw2,Uy (hn:=rfl)];rfl
     have t2:w2.cell? ⟨wr.heap.size,2,none⟩=some (.int .i64 x.rides):=by rw[<-hw2,Uy (hn:=rfl)];rfl
     have t3:w2.cell? ⟨wr.heap.size,3,none⟩=some (.int .i64 x.zones):=by rw[<-hw2,Uy (hn:=rfl)];rfl
     have t4:w2.cell? ⟨wr.heap.size,4,none⟩=some (.int .i64 x.secs):=by rw[<-hw2,Uy (hn:=rfl)];rfl
     have t5:w2.cell? ⟨wr.heap.size,5,none⟩=some (.int .i64 x.modes):=by rw[<-hw2,Uy (hn:=rfl)];rfl
     have s2:w2.heap.size=wr.heap.size+1:=by rw[<-hw2];simp
     have B2:Hid (Bl w w2):=qF hbl b2;have hset:=HSS.out.2.bl b2;have hlook:=hset.look xM Tryz.underlying166 Tryz.underlying4 (yR w2) (xJ hsz);rw[hq]at hlook;obtain⟨wa,ha1,ha2,ha3⟩:=hset.put xM Tryz.underlying166 Tryz.underlying4 (by unfold maxLen;omega) (xJ hsz);have HA2:=qA ha2;have HA3:=qA ha3;clear hp hq b2 hset ha2 ha3;have hid:=fun w=>Ms.Y6 ⟨x.id.toArray⟩ (by show x.id.toArray.size<=_;rw[List.size_toArray];unfold maxLen;omega) p HP w
     obtain⟨c1,h1⟩: ∃ o,qK x.price 0 1000000=o:=⟨_,rfl⟩;obtain⟨c2,h2⟩: ∃ o,qK x.rides 1 8=o:=⟨_,rfl⟩;obtain⟨c3,h3⟩: ∃ o,qK x.zones 1 16=o:=⟨_,rfl⟩;obtain⟨c4,h4⟩: ∃ o,qK x.secs 0 86400=o:=⟨_,rfl⟩;obtain⟨c5,h5⟩: ∃ o,qK x.modes 1 255=o:=⟨_,rfl⟩;have C1:=qA h1;have C2:=qA h2;have C3:=qA h3;have C4:=qA h4;have C5:=qA h5;have HW:Hid ((qK x.price 0 1000000||(qK x.rides 1 8||(qK x.zones 1 16||(qK x.secs 0 86400||qK x.modes 1 255))))=(c1||(c2||(c3||(c4||c5))))):=by show _=_;rw[h1,h2,h3,h4,h5]
     clear h1 h2 h3 h4 h5;cases p with
     |false=>
      have HE:=qA (qU (err:=zQ) HX.out (show zQ (l.take k) x=12 by unfold zQ;rw[U6 HP.out]) (by decide));go_wp2_with (go_at_call 119;refine(hid _).mono ?_;rintro e w3 ⟨rfl,rfl⟩)
      go_ret2;exact⟨qY HE.out HC.out,B2.out⟩
     |true=>
      have HP1:=qA (show ¬ jU x.id=false by rw[HP.out];decide);cases q with
      |true=>
       have HE:=qA (qU (err:=zQ) HX.out (show zQ (l.take k) x=6 by unfold zQ;rw[U5 HP1.out,U6 HQ.out]) (by decide));go_wp2_with (go_at_call 119;refine(hid _).mono ?_;rintro e w3 ⟨rfl,rfl⟩)
       go_ret2;exact⟨qY HE.out HC.out,B2.out⟩
      |false=>
       have HQ1:=qA (show ¬ ((l.take k).any fun y=>y.id==x.id)=true by rw[HQ.out];decide);go_wp2_with (first
        |(go_at_call 119;refine(hid _).mono ?_;rintro e w3 ⟨rfl,rfl⟩)
        |(go_at_call 131;(with_reducible refine(yl C1 _).mono ?_);rintro e w3 ⟨rfl,rfl⟩;cases c1)
        |(go_at_call 131;(with_reducible refine(yl C2 _).mono ?_);rintro e w3 ⟨rfl,rfl⟩;cases c2)
        |(go_at_call 131;(with_reducible refine(yl C3 _).mono ?_);rintro e w3 ⟨rfl,rfl⟩;cases c3)
        |(go_at_call 131;(with_reducible refine(yl C4 _).mono ?_);rintro e w3 ⟨rfl,rfl⟩;cases c4)
        |(go_at_call 131;(with_reducible refine(yl C5 _).mono ?_);rintro e w3 ⟨rfl,rfl⟩;cases c5))
       all_goals first
        |
         go_ret2;have HE:=qU (err:=zQ) (e:=2) HX.out (by unfold zQ;rw[U5 HP1.out,U5 HQ1.out,U6 (by rw[HW.out];simp)]) (by decide);exact⟨qY HE HC.out,B2.out⟩
        |have HG:=jS (err:=zQ) HX.out (by unfold zQ;rw[U5 HP1.out,U5 HQ1.out,U5 (by rw[HW.out];decide)])
         exact⟨⟨k+1,_,⟨by omega,by go_num⟩,⟨by rw[KH (·.id) HX.out];exact HSS.out.1.snoc x.id,HA2.out⟩,HG.symm.trans HC.out,B2.out.grown HA3.out (by omega) (fun k hk=>by cases hk;omega)⟩,by simp[intOf];omega⟩
    ·
     have HE:=qA (jy (err:=zQ) (show l.length<=k by omega));go_wp2;go_ret2;exact⟨qY HE.out HC.out,hbl⟩
end Go.Proofs.YtakedkcjplfgeaaGreatDoor
