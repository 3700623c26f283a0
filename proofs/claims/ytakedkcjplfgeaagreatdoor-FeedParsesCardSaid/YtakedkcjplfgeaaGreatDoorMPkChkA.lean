/- Contracts, proved. Conditions: theirs. -/
import Derived.Test.YtakedkcjplfgeaaGreatDoorMPkFedA
import Derived.Test.YtakedkcjplfgeaaGreatDoorMPkMs
import Derived.Test.YtakedkcjplfgeaaGreatDoorMPkDaA
set_option maxRecDepth 1000000
set_option maxHeartbeats 32000000
open Go.Proofs.Tryz
namespace Go.Proofs.YtakedkcjplfgeaaGreatDoor
open Go.RowKit
open Frq Thr Tt
theorem qY {a b:Int} {r r':Int×Int} (h:r'=(a,b)) (h':r'=r):Ending.returned (.tuple #[a,b])=.returned (.tuple #[r.1,r.2]):=by rw[<-h',h]
theorem zM {α:Type} {most:Nat} {err:List α->α->Int} {l:List α} (h:most<l.length):qZ most err l=(0,5):=by unfold qZ;rw[U6 h]
theorem zf {α:Type} {most:Nat} {err:List α->α->Int} {l:List α} (h:l.length<=most):qZ most err l=wU err (l.take 0) (l.drop 0):=by unfold qZ;rw[U5 ω];rfl
theorem yR (w:World):(zeroValue 4).run prog w=.ok (false:Z) w:=κ
theorem KH {α:Type} {l:List α} {k:Nat} {x:α} (f:α->Ψ) (h:l[k]? =some x):(l.take (k+1)).map f=(l.take k).map f++[f x]:=by rw[ql h,List.map_append];rfl
theorem JS {α:Type} (l:List α) (f:α->Ψ) {S:Lit->Bool} (h:QV (l.map f) S) (x:Ψ):(l.any λy=>f y==x)=S (.string x):=by
 rw[h x,List.any_map];rfl
theorem NF (vl:Value) (l:List ZH) (r:Int×Int) (H:Hid (qZ 64 zI l=r)) (hs:Hid (∀ x∈l,x.id.length<=9223372036854775807)) (B:Nat) (w:World) (hl:jA jY 4 B w vl l) (hB:B<=w.heap.size):
  Calls prog 43 #[vl] w λe w'=>e= .returned (.tuple #[.int .i64 r.1, .int .i64 r.2])/\Bl w w':=by
 obtain⟨al,capl,rfl,ll1,ll2⟩:=hl.val;have HL:=qA hl;clear hl;by_cases hmany:64<l.length
 ·
  have HR:=qA (zM (err:=zI) hmany);go_enter func43,ntmps43
  go_wp2;go_ret2;exact⟨qY HR.o H.o,qB _⟩
 have hfew:l.length<=64:=ω
 have HR:Hid (wU zI (l.take 0) (l.drop 0)=r):=(zf hfew).symm.trans H.o;have hmm:= @run_makeMap prog;obtain⟨w1,hw1⟩:=ε (w.alloc (.map #[] 0));have HS1:Hid (Zv w1 w.heap.size 0 (λ_=>false)):=by rw[<-hw1];exact je w prog 9 4
 have B1:Hid (Bl w w1):=by rw[<-hw1];exact qE (qB _) _
 clear hmany;go_enter func43,ntmps43
 go_wp2_with fail;clear hw1 hmm;go_loopw [13] (λi wr=> ∃ (k:Nat) (S:Lit->Bool),(k<=l.length/\i= .int .i64 k)/\Hid (QV ((l.take k).map (·.id)) S/\Zv wr w.heap.size k S)/\Hid (wU zI (l.take k) (l.drop k)=r)/\Bl w wr) (λi _=>l.length-(intOf i).toNat)
 case atStart=>exact⟨0,_,⟨qAD _,rfl⟩,⟨Ql,HS1.o⟩,HR,B1.o⟩
 obtain⟨k,S,⟨hk,rfl⟩,HSS,HC,hbl⟩:=hrel;have z1:=hbl.size;by_cases hlt:k<l.length
 ·
  obtain⟨bl',ol,x,rfl,hbs,hx,hc⟩:=HL.o.get hlt hbl hB;have d0:wr.cell? ⟨bl',ol+k*4,none⟩=some (qP x.id):=hc 0 _ rfl;have d1:wr.cell? ⟨bl',ol+k*4+1,none⟩=some (.int .i64 x.zone):=hc 1 _ rfl;have d2:wr.cell? ⟨bl',ol+k*4+2,none⟩=some (.bool x.free):=hc 2 _ rfl;have d3:wr.cell? ⟨bl',ol+k*4+3,none⟩=some (.int .i64 x.change):=hc 3 _ rfl;have hkI:(k:Int)<(l.length:Int):=ω
  have HX:=qA hx;have hsz:=hs.o x (Uz hx);clear hx hc;obtain⟨p,hp⟩:=ε (jU x.id);obtain⟨q,hq⟩:=ε (S (.string x.id));have HP:=qA hp;have HQ:Hid (((l.take k).any λy=>y.id==x.id)=q):=by show _=_;rw[JS (l.take k) (·.id) HSS.o.1,hq]
  obtain⟨w2,hw2⟩:=ε (wr.alloc (.cells #[qP x.id, .int .i64 x.zone, .bool x.free, .int .i64 x.change] 120));have b2:Bl wr w2:=by rw[<-hw2];exact qE (qB _) _
  have t0:w2.cell? ⟨wr.heap.size,0,none⟩=some (qP x.id):=by rw[<-hw2,Uy (hn:=rfl)];rfl
  have t1:w2.cell? ⟨wr.heap.size,1,none⟩=some (.int .i64 x.zone):=by rw[<-hw2,Uy (hn:=rfl)];rfl
  have t3:w2.cell? ⟨wr.heap.size,3,none⟩=some (.int .i64 x.change):=by rw[<-hw2,Uy (hn:=rfl)];rfl
  have s2:w2.heap.size=wr.heap.size+1:=by rw[<-hw2];simp
  have B2:Hid (Bl w w2):=qF hbl b2;have hset:=HSS.o.2.bl b2;have hlook:=hset.look xM underlying166 underlying4 (yR w2) (xJ hsz);rw[hq]at hlook;obtain⟨wa,ha1,ha2,ha3⟩:=hset.put xM underlying166 underlying4 ζ (xJ hsz);have HA2:=qA ha2;have HA3:=qA ha3;clear hp hq b2 hset ha2 ha3;have hid:=λw=>Ms.Y6 ⟨x.id.toArray⟩ (by show x.id.toArray.size<=_;rw[List.size_toArray];unfold maxLen;omega) p HP w
  cases p with
  |false=>
   have HE:=qA (qU (err:=zI) HX.o (show zI (l.take k) x=12 by unfold zI;rw[U6 HP.o]) δ);go_wp2_with (go_at_call 119;refine(hid _).mono ?_;rintro e w3 ⟨rfl,rfl⟩)
   go_ret2;exact⟨qY HE.o HC.o,B2.o⟩
  |true=>
   have hP1: ¬ jU x.id=false:=by rw[HP.o];decide
   have HP1:=qA hP1;clear hP1;cases q with
   |true=>
    have HE:=qA (qU (err:=zI) HX.o (show zI (l.take k) x=6 by unfold zI;rw[U5 HP1.o,U6 HQ.o]) δ);go_wp2_with (go_at_call 119;refine(hid _).mono ?_;rintro e w3 ⟨rfl,rfl⟩)
    go_ret2;exact⟨qY HE.o HC.o,B2.o⟩
   |false=>
    have HQ1:=qA (show ¬ ((l.take k).any λy=>y.id==x.id)=true by rw[HQ.o];decide);go_wp2_with (go_at_call 119;refine(hid _).mono ?_;rintro e w3 ⟨rfl,rfl⟩)
    all_goals first
     |
      go_ret2;have HE:=qU (err:=zI) HX.o (show zI (l.take k) x=2 by unfold zI;rw[U5 HP1.o,U5 HQ1.o,U6 (by unfold qK;simp;omega)]) δ;exact⟨qY HE HC.o,B2.o⟩
     |have HG:=jS (err:=zI) HX.o (show zI (l.take k) x=0 by unfold zI;rw[U5 HP1.o,U5 HQ1.o,U5 (by unfold qK;simp;omega)])
      exact⟨⟨k+1,_,⟨ω,by go_num⟩,⟨by rw[KH (·.id) HX.o];exact HSS.o.1.snoc x.id,HA2.o⟩,HG.symm.trans HC.o,B2.o.grown HA3.o ω (λk hk=>by cases hk;omega)⟩,by simp[intOf];omega⟩
 have HE:=qA (jy (err:=zI) (show l.length<=k by omega));go_wp2;go_ret2;exact⟨qY HE.o HC.o,hbl⟩
theorem gm (m:Int) (w:World):Calls prog 120 #[m] w λe w'=>e=.returned (.bool (!qK m 0 7))/\w=w':=by
 have h:(m<0/\qK m 0 7=true)∨(0<=m/\m<8/\qK m 0 7=false)∨(0<=m/\8<=m/\qK m 0 7=true):=by
  unfold qK;by_cases h0:m<0
  · exact .inl ⟨h0,by simp[h0]⟩
  by_cases h1:m<8
  · exact .inr (.inl ⟨ω,h1,τ⟩)
  exact .inr (.inr ⟨ω,ω,τ⟩)
 rcases h with⟨h1,h⟩|⟨h1,h2,h⟩|⟨h1,h2,h⟩
 all_goals
  rw[h];clear h;go_enter func120,ntmps120
  go_wp2;go_ret;exact⟨qO (by first|rfl|(simp;omega)),rfl⟩
theorem ZC (d:Int):Da.QN d=Yv d:=by
 unfold Da.QN Yv;rcases Int.lt_or_le d 0 with h|h
 ·
  first
  |(simp;omega)
  |simp
 simp
theorem Hz (vl:Value) (l:List xy) (r:Int×Int) (H:Hid (qZ 64 zA l=r)) (hs:Hid (∀ x∈l,x.id.length<=9223372036854775807)) (B:Nat) (w:World) (hl:jA jP 3 B w vl l) (hB:B<=w.heap.size):
  Calls prog 45 #[vl] w λe w'=>e= .returned (.tuple #[.int .i64 r.1, .int .i64 r.2])/\Bl w w':=by
 obtain⟨al,capl,rfl,ll1,ll2⟩:=hl.val;have HL:=qA hl;clear hl;by_cases hmany:64<l.length
 ·
  have HR:=qA (zM (err:=zA) hmany);go_enter func45,ntmps45
  go_wp2;go_ret2;exact⟨qY HR.o H.o,qB _⟩
 have hfew:l.length<=64:=ω
 have HR:Hid (wU zA (l.take 0) (l.drop 0)=r):=(zf hfew).symm.trans H.o;have hmm:= @run_makeMap prog;obtain⟨w1,hw1⟩:=ε (w.alloc (.map #[] 0));have HS1:Hid (Zv w1 w.heap.size 0 (λ_=>false)):=by rw[<-hw1];exact je w prog 9 4
 have B1:Hid (Bl w w1):=by rw[<-hw1];exact qE (qB _) _
 clear hmany;go_enter func45,ntmps45
 go_wp2_with fail;clear hw1 hmm;go_loopw [13] (λi wr=> ∃ (k:Nat) (S:Lit->Bool),(k<=l.length/\i= .int .i64 k)/\Hid (QV ((l.take k).map (·.id)) S/\Zv wr w.heap.size k S)/\Hid (wU zA (l.take k) (l.drop k)=r)/\Bl w wr) (λi _=>l.length-(intOf i).toNat)
 case atStart=>exact⟨0,_,⟨qAD _,rfl⟩,⟨Ql,HS1.o⟩,HR,B1.o⟩
 obtain⟨k,S,⟨hk,rfl⟩,HSS,HC,hbl⟩:=hrel;have z1:=hbl.size;by_cases hlt:k<l.length
 ·
  obtain⟨bl',ol,x,rfl,hbs,hx,hc⟩:=HL.o.get hlt hbl hB;have d0:wr.cell? ⟨bl',ol+k*3,none⟩=some (qP x.id):=hc 0 _ rfl;have d1:wr.cell? ⟨bl',ol+k*3+1,none⟩=some (.int .i64 x.mode):=hc 1 _ rfl;have d2:wr.cell? ⟨bl',ol+k*3+2,none⟩=some (.bool x.bikes):=hc 2 _ rfl;have hkI:(k:Int)<(l.length:Int):=ω
  have HX:=qA hx;have hsz:=hs.o x (Uz hx);clear hx hc;obtain⟨p,hp⟩:=ε (jU x.id);obtain⟨q,hq⟩:=ε (S (.string x.id));have HP:=qA hp;have HQ:Hid (((l.take k).any λy=>y.id==x.id)=q):=by show _=_;rw[JS (l.take k) (·.id) HSS.o.1,hq]
  obtain⟨w2,hw2⟩:=ε (wr.alloc (.cells #[qP x.id, .int .i64 x.mode, .bool x.bikes] 122));have b2:Bl wr w2:=by rw[<-hw2];exact qE (qB _) _
  have t0:w2.cell? ⟨wr.heap.size,0,none⟩=some (qP x.id):=by rw[<-hw2,Uy (hn:=rfl)];rfl
  have t1:w2.cell? ⟨wr.heap.size,1,none⟩=some (.int .i64 x.mode):=by rw[<-hw2,Uy (hn:=rfl)];rfl
  have t2:w2.cell? ⟨wr.heap.size,2,none⟩=some (.bool x.bikes):=by rw[<-hw2,Uy (hn:=rfl)];rfl
  have s2:w2.heap.size=wr.heap.size+1:=by rw[<-hw2];simp
  have B2:Hid (Bl w w2):=qF hbl b2;have hset:=HSS.o.2.bl b2;have hlook:=hset.look xM underlying166 underlying4 (yR w2) (xJ hsz);rw[hq]at hlook;obtain⟨wa,ha1,ha2,ha3⟩:=hset.put xM underlying166 underlying4 ζ (xJ hsz);have HA2:=qA ha2;have HA3:=qA ha3;clear hp hq b2 hset ha2 ha3;have hid:=λw=>Ms.Y6 ⟨x.id.toArray⟩ (by show x.id.toArray.size<=_;rw[List.size_toArray];unfold maxLen;omega) p HP w
  obtain⟨o,ho⟩:=ε (qK x.mode 0 7);have HO:=qA ho;clear ho;cases p with
  |false=>
   have HE:=qA (qU (err:=zA) HX.o (show zA (l.take k) x=12 by unfold zA;rw[U6 HP.o]) δ);go_wp2_with (go_at_call 119;refine(hid _).mono ?_;rintro e w3 ⟨rfl,rfl⟩)
   go_ret2;exact⟨qY HE.o HC.o,B2.o⟩
  |true=>
   have HP1:=qA (show ¬ jU x.id=false by rw[HP.o];decide);cases q with
   |true=>
    have HE:=qA (qU (err:=zA) HX.o (show zA (l.take k) x=6 by unfold zA;rw[U5 HP1.o,U6 HQ.o]) δ);go_wp2_with (go_at_call 119;refine(hid _).mono ?_;rintro e w3 ⟨rfl,rfl⟩)
    go_ret2;exact⟨qY HE.o HC.o,B2.o⟩
   |false=>
    have HQ1:=qA (show ¬ ((l.take k).any λy=>y.id==x.id)=true by rw[HQ.o];decide);go_wp2_with (first
     |(go_at_call 119;refine(hid _).mono ?_;rintro e w3 ⟨rfl,rfl⟩)
     |(go_at_call 120;refine(gm x.mode _).mono ?_;rintro e w3 ⟨rfl,rfl⟩;rw[HO.o];cases o))
    all_goals first
     |
      go_ret2;have HE:=qU (err:=zA) HX.o (show zA (l.take k) x=2 by unfold zA;rw[U5 HP1.o,U5 HQ1.o,U6 (HO.o)]) δ;exact⟨qY HE HC.o,B2.o⟩
     |have HG:=jS (err:=zA) HX.o (show zA (l.take k) x=0 by unfold zA;rw[U5 HP1.o,U5 HQ1.o,U5 (by rw[HO.o];decide)])
      exact⟨⟨k+1,_,⟨ω,by go_num⟩,⟨by rw[KH (·.id) HX.o];exact HSS.o.1.snoc x.id,HA2.o⟩,HG.symm.trans HC.o,B2.o.grown HA3.o ω (λk hk=>by cases hk;omega)⟩,by simp[intOf];omega⟩
 have HE:=qA (jy (err:=zA) (show l.length<=k by omega));go_wp2;go_ret2;exact⟨qY HE.o HC.o,hbl⟩
theorem OA (vl:Value) (l:List Yj) (r:Int×Int) (H:Hid (qZ 64 zZ l=r)) (hs:Hid (∀ x∈l,x.id.length<=9223372036854775807)) (B:Nat) (w:World) (hl:jA kD 10 B w vl l) (hB:B<=w.heap.size):
  Calls prog 47 #[vl] w λe w'=>e= .returned (.tuple #[.int .i64 r.1, .int .i64 r.2])/\Bl w w':=by
 obtain⟨al,capl,rfl,ll1,ll2⟩:=hl.val;have HL:=qA hl;clear hl;by_cases hmany:64<l.length
 ·
  have HR:=qA (zM (err:=zZ) hmany);go_enter func47,ntmps47
  go_wp2;go_ret2;exact⟨qY HR.o H.o,qB _⟩
 have hfew:l.length<=64:=ω
 have HR:Hid (wU zZ (l.take 0) (l.drop 0)=r):=(zf hfew).symm.trans H.o;have hmm:= @run_makeMap prog;obtain⟨w1,hw1⟩:=ε (w.alloc (.map #[] 0));have HS1:Hid (Zv w1 w.heap.size 0 (λ_=>false)):=by rw[<-hw1];exact je w prog 9 4
 have B1:Hid (Bl w w1):=by rw[<-hw1];exact qE (qB _) _
 clear hmany;go_enter func47,ntmps47
 go_wp2_with fail;clear hw1 hmm;go_loopw [13] (λi wr=> ∃ (k:Nat) (S:Lit->Bool),(k<=l.length/\i= .int .i64 k)/\Hid (QV ((l.take k).map (·.id)) S/\Zv wr w.heap.size k S)/\Hid (wU zZ (l.take k) (l.drop k)=r)/\Bl w wr) (λi _=>l.length-(intOf i).toNat)
 case atStart=>exact⟨0,_,⟨qAD _,rfl⟩,⟨Ql,HS1.o⟩,HR,B1.o⟩
 obtain⟨k,S,⟨hk,rfl⟩,HSS,HC,hbl⟩:=hrel;have z1:=hbl.size;by_cases hlt:k<l.length
 ·
  obtain⟨bl',ol,x,rfl,hbs,hx,hc⟩:=HL.o.get hlt hbl hB;have d0:wr.cell? ⟨bl',ol+k*10,none⟩=some (qP x.id):=hc 0 _ rfl;have d1:wr.cell? ⟨bl',ol+k*10+1,none⟩=some (.bool x.week.d0):=hc 1 _ rfl;have d2:wr.cell? ⟨bl',ol+k*10+2,none⟩=some (.bool x.week.d1):=hc 2 _ rfl;have d3:wr.cell? ⟨bl',ol+k*10+3,none⟩=some (.bool x.week.d2):=hc 3 _ rfl;have d4:wr.cell? ⟨bl',ol+k*10+4,none⟩=some (.bool x.week.d3):=hc 4 _ rfl;have d5:wr.cell? ⟨bl',ol+k*10+5,none⟩=some (.bool x.week.d4):=hc 5 _ rfl;have d6:wr.cell? ⟨bl',ol+k*10+6,none⟩=some (.bool x.week.d5):=hc 6 _ rfl;have d7:wr.cell? ⟨bl',ol+k*10+7,none⟩=some (.bool x.week.d6):=hc 7 _ rfl;have d8:wr.cell? ⟨bl',ol+k*10+8,none⟩=some (.int .i64 x.frm):=hc 8 _ rfl;have d9:wr.cell? ⟨bl',ol+k*10+9,none⟩=some (.int .i64 x.to):=hc 9 _ rfl;have hkI:(k:Int)<(l.length:Int):=ω
  have HX:=qA hx;have hsz:=hs.o x (Uz hx);clear hx hc;obtain⟨p,hp⟩:=ε (jU x.id);obtain⟨q,hq⟩:=ε (S (.string x.id));have HP:=qA hp;have HQ:Hid (((l.take k).any λy=>y.id==x.id)=q):=by show _=_;rw[JS (l.take k) (·.id) HSS.o.1,hq]
  obtain⟨w2,hw2⟩:=ε (wr.alloc (.cells #[qP x.id, .bool x.week.d0, .bool x.week.d1, .bool x.week.d2, .bool x.week.d3, .bool x.week.d4, .bool x.week.d5, .bool x.week.d6, .int .i64 x.frm, .int .i64 x.to] 61));have b2:Bl wr w2:=by rw[<-hw2];exact qE (qB _) _
  have t0:w2.cell? ⟨wr.heap.size,0,none⟩=some (qP x.id):=by rw[<-hw2,Uy (hn:=rfl)];rfl
  have t1:w2.cell? ⟨wr.heap.size,1,none⟩=some (.bool x.week.d0):=by rw[<-hw2,Uy (hn:=rfl)];rfl
  have t2:w2.cell? ⟨wr.heap.size,2,none⟩=some (.bool x.week.d1):=by rw[<-hw2,Uy (hn:=rfl)];rfl
  have t3:w2.cell? ⟨wr.heap.size,3,none⟩=some (.bool x.week.d2):=by rw[<-hw2,Uy (hn:=rfl)];rfl
  have t4:w2.cell? ⟨wr.heap.size,4,none⟩=some (.bool x.week.d3):=by rw[<-hw2,Uy (hn:=rfl)];rfl
  have t5:w2.cell? ⟨wr.heap.size,5,none⟩=some (.bool x.week.d4):=by rw[<-hw2,Uy (hn:=rfl)];rfl
  have t6:w2.cell? ⟨wr.heap.size,6,none⟩=some (.bool x.week.d5):=by rw[<-hw2,Uy (hn:=rfl)];rfl
  have t7:w2.cell? ⟨wr.heap.size,7,none⟩=some (.bool x.week.d6):=by rw[<-hw2,Uy (hn:=rfl)];rfl
  have t8:w2.cell? ⟨wr.heap.size,8,none⟩=some (.int .i64 x.frm):=by rw[<-hw2,Uy (hn:=rfl)];rfl
  have t9:w2.cell? ⟨wr.heap.size,9,none⟩=some (.int .i64 x.to):=by rw[<-hw2,Uy (hn:=rfl)];rfl
  have s2:w2.heap.size=wr.heap.size+1:=by rw[<-hw2];simp
  have B2:Hid (Bl w w2):=qF hbl b2;have hset:=HSS.o.2.bl b2;have hlook:=hset.look xM underlying166 underlying4 (yR w2) (xJ hsz);rw[hq]at hlook;obtain⟨wa,ha1,ha2,ha3⟩:=hset.put xM underlying166 underlying4 ζ (xJ hsz);have HA2:=qA ha2;have HA3:=qA ha3;clear hp hq b2 hset ha2 ha3;have hid:=λw=>Ms.Y6 ⟨x.id.toArray⟩ (by show x.id.toArray.size<=_;rw[List.size_toArray];unfold maxLen;omega) p HP w
  obtain⟨o1,ho1⟩:=ε (Yv x.frm);obtain⟨o2,ho2⟩:=ε (Yv x.to);have HO1:=qA ho1;have HO2:=qA ho2;have hd1:=λw=>Da.JB x.frm o1 (by show _=_;rw[ZC,HO1.o]) w
  have hd2:=λw=>Da.JB x.to o2 (by show _=_;rw[ZC,HO2.o]) w
  clear ho1 ho2;cases p with
  |false=>
   have HE:=qA (qU (err:=zZ) HX.o (show zZ (l.take k) x=12 by unfold zZ;rw[U6 HP.o]) δ);go_wp2_with (go_at_call 119;refine(hid _).mono ?_;rintro e w3 ⟨rfl,rfl⟩)
   go_ret2;exact⟨qY HE.o HC.o,B2.o⟩
  |true=>
   have HP1:=qA (show ¬ jU x.id=false by rw[HP.o];decide);cases q with
   |true=>
    have HE:=qA (qU (err:=zZ) HX.o (show zZ (l.take k) x=6 by unfold zZ;rw[U5 HP1.o,U6 HQ.o]) δ);go_wp2_with (go_at_call 119;refine(hid _).mono ?_;rintro e w3 ⟨rfl,rfl⟩)
    go_ret2;exact⟨qY HE.o HC.o,B2.o⟩
   |false=>
    have HQ1:=qA (show ¬ ((l.take k).any λy=>y.id==x.id)=true by rw[HQ.o];decide);go_wp2_with (first
     |(go_at_call 119;refine(hid _).mono ?_;rintro e w3 ⟨rfl,rfl⟩)
     |(go_at_call 121;refine(hd1 _).mono ?_;rintro e w3 ⟨rfl,rfl⟩;cases o1)
     |(go_at_call 121;refine(hd2 _).mono ?_;rintro e w3 ⟨rfl,rfl⟩;cases o2))
    all_goals first
     |
      go_ret2;have HE:=qU (err:=zZ) HX.o (show zZ (l.take k) x=11 by unfold zZ;rw[U5 HP1.o,U5 HQ1.o,U6 (by rw[HO1.o];first|rfl|(rw[HO2.o];first|rfl|(simp;omega)))]) δ;exact⟨qY HE HC.o,B2.o⟩
     |have HG:=jS (err:=zZ) HX.o (show zZ (l.take k) x=0 by unfold zZ;rw[U5 HP1.o,U5 HQ1.o,U5 (by rw[HO1.o,HO2.o];simp;omega)])
      exact⟨⟨k+1,_,⟨ω,by go_num⟩,⟨by rw[KH (·.id) HX.o];exact HSS.o.1.snoc x.id,HA2.o⟩,HG.symm.trans HC.o,B2.o.grown HA3.o ω (λk hk=>by cases hk;omega)⟩,by simp[intOf];omega⟩
 have HE:=qA (jy (err:=zZ) (show l.length<=k by omega));go_wp2;go_ret2;exact⟨qY HE.o HC.o,hbl⟩
theorem NI (vl:Value) (ts:List TripD) (stops routes cals:Int) (l:List TripX) (hts:l=ts.map xOf) (r:Int×Int) (H:Hid (qZ 256 (zG stops routes cals) l=r)) (hs:Hid (∀ x∈l,x.id.length<=9223372036854775807)) (B:Nat) (w:World) (hl:vP B w vl ts) (hB:B<=w.heap.size):
  Calls prog 51 #[vl, .int .i64 stops, .int .i64 routes, .int .i64 cals] w λe w'=>e= .returned (.tuple #[.int .i64 r.1, .int .i64 r.2])/\Bl w w':=by
 obtain⟨al,capl,rfl,ll1,ll2⟩:=hl.sl.val;have hlen:l.length=ts.length:=by rw[hts,U4]
 have HL:=qA hl;have HTS:=qA hts;clear hl hts;by_cases hmany:256<ts.length
 ·
  have HR:=qA (zM (err:=zG stops routes cals) (l:=l) (most:=256) ω);go_enter func51,ntmps51
  go_wp2;go_ret2;exact⟨qY HR.o H.o,qB _⟩
 have hfew:ts.length<=256:=ω
 have HR:Hid (wU (zG stops routes cals) (l.take 0) (l.drop 0)=r):=(zf ω).symm.trans H.o;have hmm:= @run_makeMap prog;obtain⟨w1,hw1⟩:=ε (w.alloc (.map #[] 0));have HS1:Hid (Zv w1 w.heap.size 0 (λ_=>false)):=by rw[<-hw1];exact je w prog 9 4
 have B1:Hid (Bl w w1):=by rw[<-hw1];exact qE (qB _) _
 clear hmany;go_enter func51,ntmps51
 go_wp2_with fail;clear hw1 hmm;go_loopw [21] (λi wr=> ∃ (k:Nat) (S:Lit->Bool),(k<=ts.length/\i= .int .i64 k)/\Hid (QV ((l.take k).map (·.id)) S/\Zv wr w.heap.size k S)/\Hid (wU (zG stops routes cals) (l.take k) (l.drop k)=r)/\Bl w wr) (λi _=>ts.length-(intOf i).toNat)
 case atStart=>exact⟨0,_,⟨qAD _,rfl⟩,⟨Ql,HS1.o⟩,HR,B1.o⟩
 obtain⟨k,S,⟨hk,rfl⟩,HSS,HC,hbl⟩:=hrel;have z1:=hbl.size;by_cases hlt:k<ts.length
 ·
  obtain⟨bl',ol,x,rfl,hbs,hx,hc⟩:=HL.o.sl.get hlt hbl hB;obtain⟨ax,cx,hvx,-,-⟩:=(HL.o.ok x (Uz hx)).calls.val;obtain⟨xi,hxi⟩:=ε x.id.data.toList;have hse:Value.string x.id=qP xi:=by rw[<-hxi]
  have d0:wr.cell? ⟨bl',ol+k*5,none⟩=some (qP xi):=by rw[<-hse];exact hc 0 _ rfl
  have d1:wr.cell? ⟨bl',ol+k*5+1,none⟩=some (.int .i64 x.rt):=hc 1 _ rfl;have d2:wr.cell? ⟨bl',ol+k*5+2,none⟩=some (.int .i64 x.cal):=hc 2 _ rfl;have d3:wr.cell? ⟨bl',ol+k*5+3,none⟩=some (.bool x.step):=hc 3 _ rfl;have d4:wr.cell? ⟨bl',ol+k*5+4,none⟩=some (.slice ax x.calls.length cx):=by rw[<-hvx];exact hc 4 _ rfl
  have hkI:(k:Int)<(ts.length:Int):=ω
  have HX:Hid (l[k]? =some (xOf x)):=by show _=_;rw[HTS.o,List.getElem?_map,hx];rfl
  have HXI:=qA hxi;have hsz:xi.length<=9223372036854775807:=by have:=hs.o (xOf x) (Uz HX.o);rw[<-hxi];exact this
  have HCI:=qA (show CallsIn B w (.slice ax x.calls.length cx) x.calls by rw[<-hvx];exact(HL.o.ok x (Uz hx)).calls);clear hx hc hse hvx hxi;obtain⟨p,hp⟩:=ε (jU xi);obtain⟨q,hq⟩:=ε (S (.string xi));obtain⟨e9,h9⟩:=ε (yU stops 0 172800 x.calls);have H9:=qA h9;have HP:=qA hp;have HQ:Hid (((l.take k).any λy=>y.id==(xOf x).id)=q):=by show _=_;rw[show(xOf x).id=xi from HXI.o,JS (l.take k) (·.id) HSS.o.1,hq]
  obtain⟨w2,hw2⟩:=ε (wr.alloc (.cells #[qP xi, .int .i64 x.rt, .int .i64 x.cal, .bool x.step, .slice ax x.calls.length cx] 56));have b2:Bl wr w2:=by rw[<-hw2];exact qE (qB _) _
  have t0:w2.cell? ⟨wr.heap.size,0,none⟩=some (qP xi):=by rw[<-hw2,Uy (hn:=rfl)];rfl
  have t1:w2.cell? ⟨wr.heap.size,1,none⟩=some (.int .i64 x.rt):=by rw[<-hw2,Uy (hn:=rfl)];rfl
  have t2:w2.cell? ⟨wr.heap.size,2,none⟩=some (.int .i64 x.cal):=by rw[<-hw2,Uy (hn:=rfl)];rfl
  have t4:w2.cell? ⟨wr.heap.size,4,none⟩=some (.slice ax x.calls.length cx):=by rw[<-hw2,Uy (hn:=rfl)];rfl
  have s2:w2.heap.size=wr.heap.size+1:=by rw[<-hw2];simp
  have B2:Hid (Bl w w2):=qF hbl b2;have BR2:=qA b2;have hset:=HSS.o.2.bl b2;have hlook:=hset.look xM underlying166 underlying4 (yR w2) (xJ hsz);rw[hq]at hlook;clear hp hq b2 hset h9;have hid:=λw=>Ms.Y6 ⟨xi.toArray⟩ (by show xi.toArray.size<=_;rw[List.size_toArray];unfold maxLen;omega) p HP w
  cases p with
  |false=>
   have HE:=qA (qU (err:=zG stops routes cals) HX.o (show zG stops routes cals (l.take k) (xOf x)=12 by unfold zG;rw[show(xOf x).id=xi from HXI.o,U6 HP.o]) δ);go_wp2_with (go_at_call 119;refine(hid _).mono ?_;rintro e w3 ⟨rfl,rfl⟩)
   go_ret2;exact⟨qY HE.o HC.o,B2.o⟩
  |true=>
   have HP1:=qA (show ¬ jU (xOf x).id=false by rw[show(xOf x).id=xi from HXI.o,HP.o];decide);cases q with
   |true=>
    have HE:=qA (qU (err:=zG stops routes cals) HX.o (show zG stops routes cals (l.take k) (xOf x)=6 by unfold zG;rw[U5 HP1.o,U6 HQ.o]) δ);go_wp2_with (go_at_call 119;refine(hid _).mono ?_;rintro e w3 ⟨rfl,rfl⟩)
    go_ret2;exact⟨qY HE.o HC.o,B2.o⟩
   |false=>
    have HQ1:=qA (show ¬ ((l.take k).any λy=>y.id==(xOf x).id)=true by rw[HQ.o];decide);by_cases hout:(x.rt<0∨routes<=x.rt)∨(x.cal<0∨cals<=x.cal)
    ·
     have HE:=qA (qU (err:=zG stops routes cals) HX.o (show zG stops routes cals (l.take k) (xOf x)=9 by unfold zG;rw[U5 HP1.o,U5 HQ1.o,U6 (by show(qK x.rt 0 (routes-1)||qK x.cal 0 (cals-1))=true;unfold qK;simp;omega)]) δ);go_wp2_with (go_at_call 119;refine(hid _).mono ?_;rintro e w3 ⟨rfl,rfl⟩)
     all_goals first
      |(exfalso;omega)
      |(go_ret2;exact⟨qY HE.o HC.o,B2.o⟩)
    have HO1:=qA (show ¬ (qK x.rt 0 (routes-1)||qK x.cal 0 (cals-1))=true by unfold qK;simp;omega);have n1:0<=x.rt:=ω
    have n2:x.rt<routes:=ω
    have n3:0<=x.cal:=ω
    have n4:x.cal<cals:=ω
    have hcc:=Ms.WX (.slice ax x.calls.length cx) x.calls stops 0 172800 e9 H9 B w2 (HCI.o.o B2.o hB) ω;go_wp2_with (first
     |(go_at_call 119;refine(hid _).mono ?_;rintro e w3 ⟨rfl,rfl⟩)
     |(go_at_call 122;refine hcc.mono ?_;rintro e w4 ⟨⟨i4,rfl⟩,b4⟩;have t0':w4.cell? ⟨wr.heap.size,0,none⟩=some (qP xi):=((qG b4).1 _ _ ω).trans t0;obtain⟨wa,ha1,ha2,ha3⟩:=(HSS.o.2.bl (qF BR2.o b4)).put xM underlying166 underlying4 ζ (xJ hsz);have HA2:=qA ha2;have HA3:=qA ha3;have B4:=qA b4;clear ha2 ha3 b4;rcases Int.lt_trichotomy e9 0 with h0|h0|h0))
    all_goals
     have HTE:zG stops routes cals (l.take k) (xOf x)=e9:=by unfold zG;rw[U5 HP1.o,U5 HQ1.o,U5 (show ¬ (qK (xOf x).route 0 (routes-1)||qK (xOf x).cal 0 (cals-1))=true from HO1.o)];exact H9.o
     have hb4:=B4.o.size;first
      |
       go_ret2;have HE:=qU (err:=zG stops routes cals) HX.o HTE ω;exact⟨qY HE HC.o,qF B2.o B4.o⟩
      |have HG:=jS (err:=zG stops routes cals) HX.o (HTE.trans h0)
       exact⟨⟨k+1,_,⟨ω,by go_num⟩,⟨by rw[KH (·.id) HX.o,show(xOf x).id=xi from HXI.o];exact HSS.o.1.snoc xi,HA2.o⟩,HG.symm.trans HC.o,(qF B2.o B4.o).grown HA3.o ω (λk hk=>by cases hk;omega)⟩,by simp[intOf];omega⟩
 have HE:=qA (jy (err:=zG stops routes cals) (show l.length<=k by omega));go_wp2;go_ret2;exact⟨qY HE.o HC.o,hbl⟩
end Go.Proofs.YtakedkcjplfgeaaGreatDoor
namespace Go.Proofs.YtakedkcjplfgeaaGreatDoor
open Go.RowKit Go.Maps
open Go.Maps (Keyed)
open Frq Thr Tt
theorem Wl:laidOutB prog=true:=κ
theorem YB:prog.cellsOf 3=1:=κ
theorem rX:prog.cellsOf 4=1:=κ
theorem YN: ∃ n,prog.types.size=n+1:=by
 have h:0<prog.types.size:=ξ
 exact⟨prog.types.size-1,ω⟩
theorem Y0:Keyed prog 169:=Keyed.of_law (deep_law_laid Wl (m:=5) ω ξ κ κ)
def dI (x:Int×Int):Value:=.agg #[x.1,x.2]
def JY (x:Int×Int):Prop:=zB x.1/\zB x.2
theorem CW:prog.keyType 169=true:=κ
theorem XU:prog.cellsOf 169=2:=κ
theorem FX {x:Int×Int} (h:JY x): ∃ kl,keyOf prog 169 (dI x)=some kl:=by
 obtain⟨n,hn⟩:=YN;have w0:=Z8 h.1;have w1:=Z8 h.2;unfold keyOf dI;rw[underlying169];simp only[CW,Value.formed,underlying169,XU,hn];simp[Program.keyLits,underlying169,underlying3,show List.range 2=[0,1] from rfl,XU,YB,w0,w1,Value.cells]
def sO (gk:Int×Int->Lit):Prop:= ∀ x,JY x->keyOf prog 169 (dI x)=some (gk x)
theorem CV: ∃ gk,sO gk:=by
 have h: ∀ x:Int×Int,∃ kl,JY x->keyOf prog 169 (dI x)=some kl:=λx=>by
  by_cases hx:JY x
  ·
   obtain⟨kl,hk⟩:=FX hx;exact⟨kl,λ_=>hk⟩
  exact⟨.bool false,λh=>absurd h hx⟩
 exact⟨λx=>Classical.choose (h x),λx hx=>Classical.choose_spec (h x) hx⟩
theorem sQ {gk:Int×Int->Lit} (K:sO gk) {x y:Int×Int} (hx:JY x) (hy:JY y) (h:gk x=gk y):x=y:=by
 have:=Y0.inj (K x hx) (h ▸ K y hy);cases x
 cases y
 simpa[dI,Prod.ext_iff]using this
def gQ (gk:Int×Int->Lit) (l:List (Int×Int)) (S:Lit->Bool):Prop:= ∀ x:Int×Int,JY x->S (gk x)=l.any λy=>y==x
theorem gU {gk:Int×Int->Lit} (K:sO gk) {l:List (Int×Int)} {S:Lit->Bool} {x:Int×Int} (h:gQ gk l S) (hk:JY x):gQ gk (l++[x]) (wY S (gk x)):=λy hy=>by
 by_cases e:y=x
 · rw[e,xq _ (Y0.key (K x hk))];simp
 rw[xu (λe'=>e (sQ K hy hk e')),h y hy,List.any_append,List.any_cons,List.any_nil,Bool.or_false,show(x==y)=false by rw[U0];exact λe'=>e e'.symm,Bool.or_false]
abbrev Po (w:World) (b n:Nat) (S:Lit->Bool):Prop:=jE w prog 169 4 b n S
theorem YI:Keyed prog 221:=Keyed.of_law (deep_law_laid Wl (m:=5) ω ξ κ κ)
def Vo (x:Int×Int×Bool):Value:=.agg #[x.1,x.2.1,x.2.2]
def Q4 (x:Int×Int×Bool):Prop:=zB x.1/\zB x.2.1
theorem uV:prog.keyType 221=true:=κ
theorem V8:prog.cellsOf 221=3:=κ
theorem Dh {x:Int×Int×Bool} (h:Q4 x): ∃ kl,keyOf prog 221 (Vo x)=some kl:=by
 obtain⟨n,hn⟩:=YN;have w0:=Z8 h.1;have w1:=Z8 h.2;unfold keyOf Vo;rw[underlying221];simp only[uV,Value.formed,underlying221,V8,hn];simp[Program.keyLits,underlying221,underlying3,underlying4,rX,V8,YB,w0,w1,Value.cells]
def iE (gk:Int×Int×Bool->Lit):Prop:= ∀ x,Q4 x->keyOf prog 221 (Vo x)=some (gk x)
theorem uU: ∃ gk,iE gk:=by
 have h: ∀ x:Int×Int×Bool,∃ kl,Q4 x->keyOf prog 221 (Vo x)=some kl:=λx=>by
  by_cases hx:Q4 x
  ·
   obtain⟨kl,hk⟩:=Dh hx;exact⟨kl,λ_=>hk⟩
  exact⟨.bool false,λh=>absurd h hx⟩
 exact⟨λx=>Classical.choose (h x),λx hx=>Classical.choose_spec (h x) hx⟩
theorem oD {gk:Int×Int×Bool->Lit} (K:iE gk) {x y:Int×Int×Bool} (hx:Q4 x) (hy:Q4 y) (h:gk x=gk y):x=y:=by
 have:=YI.inj (K x hx) (h ▸ K y hy);cases x
 cases y
 simpa[Vo,Prod.ext_iff]using this
def X0 (gk:Int×Int×Bool->Lit) (l:List (Int×Int×Bool)) (S:Lit->Bool):Prop:= ∀ x:Int×Int×Bool,Q4 x->S (gk x)=l.any λy=>y==x
theorem bK {gk:Int×Int×Bool->Lit} (K:iE gk) {l:List (Int×Int×Bool)} {S:Lit->Bool} {x:Int×Int×Bool} (h:X0 gk l S) (hk:Q4 x):X0 gk (l++[x]) (wY S (gk x)):=λy hy=>by
 by_cases e:y=x
 · rw[e,xq _ (YI.key (K x hk))];simp
 rw[xu (λe'=>e (oD K hy hk e')),h y hy,List.any_append,List.any_cons,List.any_nil,Bool.or_false,show(x==y)=false by rw[U0];exact λe'=>e e'.symm,Bool.or_false]
abbrev Ov (w:World) (b n:Nat) (S:Lit->Bool):Prop:=jE w prog 221 4 b n S
end Go.Proofs.YtakedkcjplfgeaaGreatDoor
namespace Go.Proofs.YtakedkcjplfgeaaGreatDoor
open Go.RowKit
open Frq Thr Tt
theorem OJ (vl:Value) (l:List Yk) (calendars:Int) (r:Int×Int) (H:Hid (qZ 256 (jd calendars) l=r)) (hok:Hid (∀ x∈l,zB x.cal/\zB x.day)) (B:Nat) (w:World) (hl:jA kE 3 B w vl l) (hB:B<=w.heap.size):
  Calls prog 49 #[vl,calendars] w λe w'=>e=.returned (.tuple #[r.1,r.2])/\Bl w w':=by
 obtain⟨gk,KG⟩:=CV;obtain⟨al,capl,rfl,ll1,ll2⟩:=hl.val;have HL:=qA hl;clear hl;by_cases hmany:256<l.length
 ·
  have HR:=qA (zM (err:=(jd calendars)) hmany);go_enter func49,ntmps49
  go_wp2;go_ret2;exact⟨qY HR.o H.o,qB _⟩
 have hfew:l.length<=256:=ω
 have HR:Hid (wU (jd calendars) (l.take 0) (l.drop 0)=r):=(zf hfew).symm.trans H.o;have hmm:= @run_makeMap prog;obtain⟨w1,hw1⟩:=ε (w.alloc (.map #[] 0));have HS1:Hid (jE w1 prog 169 4 w.heap.size 0 (λ_=>false)):=by rw[<-hw1];exact je w prog 169 4
 have B1:Hid (Bl w w1):=by rw[<-hw1];exact qE (qB _) _
 clear hmany;go_enter func49,ntmps49
 go_wp2_with fail;clear hw1 hmm;go_loopw [16] (λi wr=> ∃ (k:Nat) (S:Lit->Bool),(k<=l.length/\i=k)/\Hid (gQ gk ((l.take k).map λy=>(y.cal,y.day)) S/\Po wr w.heap.size k S)/\Hid (wU (jd calendars) (l.take k) (l.drop k)=r)/\Bl w wr) (λi _=>l.length-(intOf i).toNat)
 case atStart=>exact⟨0,_,⟨qAD _,rfl⟩,⟨λ_ _=>rfl,HS1.o⟩,HR,B1.o⟩
 obtain⟨k,S,⟨hk,rfl⟩,HSS,HC,hbl⟩:=hrel;have z1:=hbl.size;by_cases hlt:k<l.length
 ·
  obtain⟨bl',ol,x,rfl,hbs,hx,hc⟩:=HL.o.get hlt hbl hB;have d0:wr.cell? (bl',ol+k*3)=some (x.cal:Z):=hc 0 _ rfl;have d1:wr.cell? (bl',ol+k*3+1)=some (x.day:Z):=hc 1 _ rfl;have d2:wr.cell? (bl',ol+k*3+2)=some (x.added:Z):=hc 2 _ rfl;have hkI:(k:Int)<(l.length:Int):=ω
  have HX:=qA hx;have HOK:=qA (hok.o x (Uz hx));have HKO:Hid (JY ((x.cal,x.day))):=⟨HOK.o.1,HOK.o.2⟩;clear hx hc;obtain⟨q,hq⟩:=ε (S (gk ((x.cal,x.day))));have HQ:Hid (((l.take k).any λy=>y.cal==x.cal&&y.day==x.day)=q):=by
   show _=_
   rw[<-hq,HSS.o.1 _ HKO.o,List.any_map];refine congrArg (λf=>(l.take k).any f) (funext λy=>?_);simp only[Function.comp];rw[Bool.eq_iff_iff];simp[Prod.ext_iff]
  have HQQ:=qA hq;clear hq;obtain⟨w2,hw2⟩:=ε (wr.alloc (.cells #[x.cal,x.day,x.added] 124));obtain⟨w3,hw3⟩:=ε (w2.alloc (.cells #[x.cal,x.day] 169));have b2:Bl wr w2:=by rw[<-hw2];exact qE (qB _) _
  have b3:Bl wr w3:=by rw[<-hw3];exact qE b2 _
  have s2:w2.heap.size=wr.heap.size+1:=by rw[<-hw2];simp
  have s3:w3.heap.size=wr.heap.size+2:=by rw[<-hw3];simp[s2]
  have t0:w2.cell? (wr.heap.size,0)=some (x.cal:Z):=by rw[<-hw2,Uy (hn:=rfl)];rfl
  have t1:w2.cell? (wr.heap.size,1)=some (x.day:Z):=by rw[<-hw2,Uy (hn:=rfl)];rfl
  have b23:Bl w2 w3:=by rw[<-hw3];exact qE (qB _) _
  have t0':w3.cell? (wr.heap.size,0)=some (x.cal:Z):=((qG b23).1 _ _ ω).trans t0;have t1':w3.cell? (wr.heap.size,1)=some (x.day:Z):=((qG b23).1 _ _ ω).trans t1;have k0:w3.cell? (wr.heap.size+1,0)=some (x.cal:Z):=by rw[<-s2,<-hw3,Uy (hn:=rfl)];rfl
  have k1:w3.cell? (wr.heap.size+1,1)=some (x.day:Z):=by rw[<-s2,<-hw3,Uy (hn:=rfl)];rfl
  have B3:Hid (Bl w w3):=qF hbl b3;have hset:=HSS.o.2.bl b3;have hlook:=hset.look Y0 underlying168 underlying4 (yR w3) (KG _ HKO.o);rw[HQQ.o]at hlook;obtain⟨wa,ha1,ha2,ha3⟩:=hset.put Y0 underlying168 underlying4 ζ (KG _ HKO.o);simp only[dI]at hlook ha1;have HA2:=qA ha2;have HA3:=qA ha3;obtain⟨o,ho⟩:=ε (Yv x.day);have HO:=qA ho;have hd:=λw=>Da.JB x.day o (by show _=_;rw[ZC,HO.o]) w
  clear b2 b3 b23 hset ha2 ha3 ho;go_wp2_with (go_at_call 121;refine(hd _).mono ?_;rintro e w4 ⟨rfl,rfl⟩;cases o<;>cases q)
  all_goals first
   |
    go_ret2;have HE:=qU (err:=jd calendars) (e:=9) HX.o (by unfold jd;rw[U6 (by unfold qK;simp;omega)]) δ;exact⟨qY HE HC.o,B3.o⟩
   |
    go_ret2;have HE:=qU (err:=jd calendars) (e:=11) HX.o (by unfold jd;rw[U5 (by unfold qK;simp;omega),U6 HO.o]) δ;exact⟨qY HE HC.o,B3.o⟩
   |
    go_ret2;have HE:=qU (err:=jd calendars) (e:=6) HX.o (by unfold jd;rw[U5 (by unfold qK;simp;omega),U5 (by rw[HO.o];decide),U6 HQ.o]) δ;exact⟨qY HE HC.o,B3.o⟩
   |have HG:=jS (err:=jd calendars) HX.o (by unfold jd;rw[U5 (by unfold qK;simp;omega),U5 (by rw[HO.o];decide),U5 (by rw[HQ.o];decide)])
    exact⟨⟨k+1,_,⟨ω,by go_num⟩,⟨by rw[ql HX.o,List.map_append];exact gU KG HSS.o.1 HKO.o,HA2.o⟩,HG.symm.trans HC.o,B3.o.grown HA3.o ω (λk hk=>by cases hk;omega)⟩,by simp[intOf];omega⟩
 have HE:=qA (jy (err:=(jd calendars)) (show l.length<=k by omega));go_wp2;go_ret2;exact⟨qY HE.o HC.o,hbl⟩
theorem Hg (vl:Value) (l:List Qq) (stops:Int) (r:Int×Int) (H:Hid (wU (zO stops) (l.take 0) (l.drop 0)=r)) (hok:Hid (∀ x∈l,zB x.frm/\zB x.to)) (B:Nat) (w:World) (hl:jA zt 4 B w vl l) (hB:B<=w.heap.size):
  Calls prog 130 #[vl,stops] w λe w'=>e=.returned (.tuple #[r.1,r.2])/\Bl w w':=by
 obtain⟨gk,KG⟩:=uU;obtain⟨al,capl,rfl,ll1,ll2⟩:=hl.val;have HL:=qA hl;clear hl;have HR:Hid (wU (zO stops) (l.take 0) (l.drop 0)=r):=H.o;have hmm:= @run_makeMap prog;obtain⟨w1,hw1⟩:=ε (w.alloc (.map #[] 0));have HS1:Hid (jE w1 prog 221 4 w.heap.size 0 (λ_=>false)):=by rw[<-hw1];exact je w prog 221 4
 have B1:Hid (Bl w w1):=by rw[<-hw1];exact qE (qB _) _
 go_enter func130,ntmps130
 go_wp2_with fail;clear hw1 hmm;go_loopw [13] (λi wr=> ∃ (k:Nat) (S:Lit->Bool),(k<=l.length/\i=k)/\Hid (X0 gk ((l.take k).map λy=>(y.frm,y.to,y.free)) S/\Ov wr w.heap.size k S)/\Hid (wU (zO stops) (l.take k) (l.drop k)=r)/\Bl w wr) (λi _=>l.length-(intOf i).toNat)
 case atStart=>exact⟨0,_,⟨qAD _,rfl⟩,⟨λ_ _=>rfl,HS1.o⟩,HR,B1.o⟩
 obtain⟨k,S,⟨hk,rfl⟩,HSS,HC,hbl⟩:=hrel;have z1:=hbl.size;by_cases hlt:k<l.length
 ·
  obtain⟨bl',ol,x,rfl,hbs,hx,hc⟩:=HL.o.get hlt hbl hB;have d0:wr.cell? (bl',ol+k*4)=some (x.frm:Z):=hc 0 _ rfl;have d1:wr.cell? (bl',ol+k*4+1)=some (x.to:Z):=hc 1 _ rfl;have d2:wr.cell? (bl',ol+k*4+2)=some (x.secs:Z):=hc 2 _ rfl;have d3:wr.cell? (bl',ol+k*4+3)=some (x.free:Z):=hc 3 _ rfl;have hkI:(k:Int)<(l.length:Int):=ω
  have HX:=qA hx;have HOK:=qA (hok.o x (Uz hx));have HKO:Hid (Q4 ((x.frm,x.to,x.free))):=⟨HOK.o.1,HOK.o.2⟩;clear hx hc;obtain⟨q,hq⟩:=ε (S (gk ((x.frm,x.to,x.free))));have HQ:Hid (((l.take k).any λy=>y.frm==x.frm&&(y.to==x.to&&y.free==x.free))=q):=by
   show _=_
   rw[<-hq,HSS.o.1 _ HKO.o,List.any_map];refine congrArg (λf=>(l.take k).any f) (funext λy=>?_);simp only[Function.comp];rw[Bool.eq_iff_iff];simp[Prod.ext_iff]
  have HQQ:=qA hq;clear hq;obtain⟨w2,hw2⟩:=ε (wr.alloc (.cells #[x.frm,x.to,x.secs,x.free] 63));obtain⟨w3,hw3⟩:=ε (w2.alloc (.cells #[x.frm,x.to,x.free] 221));have b2:Bl wr w2:=by rw[<-hw2];exact qE (qB _) _
  have b3:Bl wr w3:=by rw[<-hw3];exact qE b2 _
  have s2:w2.heap.size=wr.heap.size+1:=by rw[<-hw2];simp
  have s3:w3.heap.size=wr.heap.size+2:=by rw[<-hw3];simp[s2]
  have t0:w2.cell? (wr.heap.size,0)=some (x.frm:Z):=by rw[<-hw2,Uy (hn:=rfl)];rfl
  have t1:w2.cell? (wr.heap.size,1)=some (x.to:Z):=by rw[<-hw2,Uy (hn:=rfl)];rfl
  have t2:w2.cell? (wr.heap.size,2)=some (x.secs:Z):=by rw[<-hw2,Uy (hn:=rfl)];rfl
  have t3:w2.cell? (wr.heap.size,3)=some (x.free:Z):=by rw[<-hw2,Uy (hn:=rfl)];rfl
  have b23:Bl w2 w3:=by rw[<-hw3];exact qE (qB _) _
  have t0':w3.cell? (wr.heap.size,0)=some (x.frm:Z):=((qG b23).1 _ _ ω).trans t0;have t1':w3.cell? (wr.heap.size,1)=some (x.to:Z):=((qG b23).1 _ _ ω).trans t1;have t2':w3.cell? (wr.heap.size,2)=some (x.secs:Z):=((qG b23).1 _ _ ω).trans t2;have k0:w3.cell? (wr.heap.size+1,0)=some (x.frm:Z):=by rw[<-s2,<-hw3,Uy (hn:=rfl)];rfl
  have k1:w3.cell? (wr.heap.size+1,1)=some (x.to:Z):=by rw[<-s2,<-hw3,Uy (hn:=rfl)];rfl
  have k2:w3.cell? (wr.heap.size+1,2)=some (x.free:Z):=by rw[<-s2,<-hw3,Uy (hn:=rfl)];rfl
  have B3:Hid (Bl w w3):=qF hbl b3;have hset:=HSS.o.2.bl b3;have hlook:=hset.look YI underlying219 underlying4 (yR w3) (KG _ HKO.o);rw[HQQ.o]at hlook;obtain⟨wa,ha1,ha2,ha3⟩:=hset.put YI underlying219 underlying4 ζ (KG _ HKO.o);simp only[Vo]at hlook ha1;have HA2:=qA ha2;have HA3:=qA ha3;clear b2 b3 b23 hset ha2 ha3;have hP: ∀ e,zO stops (l.take k) x=e->Hid (zO stops (l.take k) x=e):=λe h=>h
  by_cases h9:(x.frm<0∨stops<=x.frm)∨(x.to<0∨stops<=x.to)∨x.frm=x.to
  ·
   have HE:=qA (qU (err:=zO stops) (e:=9) HX.o (by unfold zO;rw[U6 (by unfold qK;simp;omega)]) δ);by_cases hft:x.frm=x.to
   ·
    have hft':(x.frm==x.to)=true:=by simp[hft]
    clear h9 hft;go_wp2_with fail;all_goals first
     |(go_ret2;exact⟨qY HE.o HC.o,B3.o⟩)
     |(exfalso;omega)
   have hft':(x.frm==x.to)=false:=by simp[hft]
   go_wp2_with fail;all_goals first
    |(exfalso;omega)
    |(go_ret2;exact⟨qY HE.o HC.o,B3.o⟩)
  have n1:0<=x.frm:=ω
  have n2:x.frm<stops:=ω
  have n3:0<=x.to:=ω
  have n4:x.to<stops:=ω
  have hft':(x.frm==x.to)=false:=τ
  have H9:=qA (show ¬ (qK x.frm 0 (stops-1)||(qK x.to 0 (stops-1)||x.frm==x.to))=true by unfold qK;simp;omega);clear h9;cases q with
  |true=>
   go_wp2_with fail;all_goals first
    |
     go_ret2;have HE:=qU (err:=zO stops) (e:=2) HX.o (by unfold zO;rw[U5 H9.o,U6 (by unfold qK;simp;omega)]) δ;exact⟨qY HE HC.o,B3.o⟩
    |
     go_ret2;have HE:=qU (err:=zO stops) (e:=6) HX.o (by unfold zO;rw[U5 H9.o,U5 (by unfold qK;simp;omega),U6 HQ.o]) δ;exact⟨qY HE HC.o,B3.o⟩
  |false=>
   go_wp2_with fail;all_goals first
    |
     go_ret2;have HE:=qU (err:=zO stops) (e:=2) HX.o (by unfold zO;rw[U5 H9.o,U6 (by unfold qK;simp;omega)]) δ;exact⟨qY HE HC.o,B3.o⟩
    |have HG:=jS (err:=zO stops) HX.o (by unfold zO;rw[U5 H9.o,U5 (by unfold qK;simp;omega),U5 (by rw[HQ.o];decide)])
     exact⟨⟨k+1,_,⟨ω,by go_num⟩,⟨by rw[ql HX.o,List.map_append];exact bK KG HSS.o.1 HKO.o,HA2.o⟩,HG.symm.trans HC.o,B3.o.grown HA3.o ω (λk hk=>by cases hk;omega)⟩,by simp[intOf];omega⟩
 have HE:=qA (jy (err:=(zO stops)) (show l.length<=k by omega));go_wp2;go_ret2;exact⟨qY HE.o HC.o,hbl⟩
theorem MM (vl:Value) (l:List Qq) (stops:Int) (r:Int×Int) (H:Hid (qZ 512 (zO stops) l=r)) (hok:Hid (∀ x∈l,zB x.frm/\zB x.to)) (B:Nat) (w:World) (hl:jA zt 4 B w vl l) (hB:B<=w.heap.size):
  Calls prog 59 #[vl,stops] w λe w'=>e=.returned (.tuple #[r.1,r.2])/\Bl w w':=by
 obtain⟨al,capl,rfl,ll1,ll2⟩:=hl.val;by_cases hmany:512<l.length
 ·
  have HR:=qA (zM (err:=zO stops) hmany);go_enter func59,ntmps59
  go_wp2;go_ret2;exact⟨qY HR.o H.o,qB _⟩
 have hfew:l.length<=512:=ω
 have hc:=Hg _ l stops r ((zf hfew).symm.trans H.o) hok B w hl hB;clear hmany;go_enter func59,ntmps59
 go_wp2_with (go_at_call 130;refine hc.mono ?_;rintro e w1 ⟨rfl,b1⟩;have HB1:=qA b1;clear b1)
 go_ret2;exact⟨rfl,HB1.o⟩
theorem Ib (n lo hi:Int) (w:World):Calls prog 131 #[n,lo,hi] w λe w'=>e=.returned (.bool (!qK n lo hi))/\w=w':=by
 have h:(n<lo/\qK n lo hi=true)∨(lo<=n/\n<=hi/\qK n lo hi=false)∨(lo<=n/\hi<n/\qK n lo hi=true):=by
  unfold qK;by_cases h0:n<lo
  · exact .inl ⟨h0,by simp[h0]⟩
  by_cases h1:n<=hi
  · exact .inr (.inl ⟨ω,h1,τ⟩)
  exact .inr (.inr ⟨ω,ω,τ⟩)
 rcases h with⟨h1,h⟩|⟨h1,h2,h⟩|⟨h1,h2,h⟩
 all_goals
  rw[h];clear h;go_enter func131,ntmps131
  go_wp2;go_ret;exact⟨qO (by first|rfl|(simp;omega)),rfl⟩
theorem yl {n lo hi:Int} {o:Bool} (H:Hid (qK n lo hi=o)) (w:World):Calls prog 131 #[n,lo,hi] w λe w'=>e=.returned (.bool (!o))/\w=w':=by
 rw[<-H.o];exact Ib n lo hi w
theorem MR (vl:Value) (f:Jp) (r:Int×Int) (H:Hid (vF f=r)) (hs:Hid (∀ x∈f.prods,x.id.length<=9223372036854775807)) (B:Nat) (w:World) (hl:jA zu 6 B w vl f.prods) (hB:B<=w.heap.size):
  Calls prog 61 #[FZ vl f] w λe w'=>e= .returned (.tuple #[.int .i64 r.1, .int .i64 r.2])/\Bl w w':=by
 obtain⟨al,capl,rfl,ll1,ll2⟩:=hl.val;obtain⟨l,disc,wit,cap⟩:=f;have hl:jA zu 6 B w (.slice al l.length capl) l:=hl;have hs:Hid (∀ x∈l,x.id.length<=9223372036854775807):=hs;have ll1:l.length<=capl:=ll1;have HL:=qA hl;clear hl;obtain⟨o1,h1⟩:=ε (qK disc 0 1000000);obtain⟨o2,h2⟩:=ε (qK wit 0 86400);obtain⟨o3,h3⟩:=ε (qK cap 0 1000000);have H1:=qA h1;have H2:=qA h2;have H3:=qA h3;obtain⟨w0,hw0⟩:=ε (w.alloc (.cells #[.slice al l.length capl, .int .i64 disc, .int .i64 wit, .int .i64 cap] 34));have b0:Bl w w0:=by rw[<-hw0];exact qE (qB _) _
 have s0:w0.heap.size=w.heap.size+1:=by rw[<-hw0];simp
 have f0:w0.cell? ⟨w.heap.size,0,none⟩=some (.slice al l.length capl):=by rw[<-hw0,Uy (hn:=rfl)];rfl
 have f1:w0.cell? ⟨w.heap.size,1,none⟩=some (.int .i64 disc):=by rw[<-hw0,Uy (hn:=rfl)];rfl
 have f2:w0.cell? ⟨w.heap.size,2,none⟩=some (.int .i64 wit):=by rw[<-hw0,Uy (hn:=rfl)];rfl
 have f3:w0.cell? ⟨w.heap.size,3,none⟩=some (.int .i64 cap):=by rw[<-hw0,Uy (hn:=rfl)];rfl
 have HB0:=qA b0;clear h1 h2 h3 b0;by_cases hbad:(o1||(o2||o3))=true
 ·
  have HR:=qA (show((-1:Int),(2:Int))=r by rw[<-H.o];unfold vF;rw[U6 (by show(qK disc 0 1000000||(qK wit 0 86400||qK cap 0 1000000))=true;rw[H1.o,H2.o,H3.o];exact hbad)]);show Calls prog _ #[.agg #[.slice al l.length capl, .int .i64 disc, .int .i64 wit, .int .i64 cap]] w _
  go_enter func61,ntmps61
  cases o1<;>cases o2<;>cases o3
  all_goals first
   |(exact absurd hbad δ)
   |
    go_wp2_with (first
     |(go_at_call 131;(with_reducible refine(yl H1 _).mono ?_);rintro e w3 ⟨rfl,rfl⟩)
     |(go_at_call 131;(with_reducible refine(yl H2 _).mono ?_);rintro e w3 ⟨rfl,rfl⟩)
     |(go_at_call 131;(with_reducible refine(yl H3 _).mono ?_);rintro e w3 ⟨rfl,rfl⟩))
    go_ret2;exact⟨qY rfl HR.o,HB0.o⟩
 have H123:o1=false/\o2=false/\o3=false:=by cases o1<;>cases o2<;>cases o3<;>simp_all
 obtain⟨rfl,rfl,rfl⟩:=H123;have HC0:Hid (qZ 16 zQ l=r):=by show _=_;rw[<-H.o];unfold vF;rw[U5 (by show ¬ (qK disc 0 1000000||(qK wit 0 86400||qK cap 0 1000000))=true;rw[H1.o,H2.o,H3.o];decide)]
 clear hbad;show Calls prog _ #[.agg #[.slice al l.length capl, .int .i64 disc, .int .i64 wit, .int .i64 cap]] w _
 by_cases hmany:16<l.length
 ·
  have HR:=qA (zM (err:=zQ) hmany);go_enter func61,ntmps61
  go_wp2_with (first
    |(go_at_call 131;(with_reducible refine(yl H1 _).mono ?_);rintro e w3 ⟨rfl,rfl⟩)
    |(go_at_call 131;(with_reducible refine(yl H2 _).mono ?_);rintro e w3 ⟨rfl,rfl⟩)
    |(go_at_call 131;(with_reducible refine(yl H3 _).mono ?_);rintro e w3 ⟨rfl,rfl⟩))
  go_ret2;exact⟨qY HR.o HC0.o,HB0.o⟩
 have hfew:l.length<=16:=ω
 have HR:Hid (wU zQ (l.take 0) (l.drop 0)=r):=(zf hfew).symm.trans HC0.o;have hmm:= @run_makeMap prog;obtain⟨w1,hw1⟩:=ε (w0.alloc (.map #[] 0));have HS1:Hid (Zv w1 w0.heap.size 0 (λ_=>false)):=by rw[<-hw1];exact je w0 prog 9 4
 have b1:Bl w0 w1:=by rw[<-hw1];exact qE (qB _) _
 have g0:w1.cell? ⟨w.heap.size,0,none⟩=some (.slice al l.length capl):=((qG b1).1 _ _ ω).trans f0;have B1:Hid (Bl w w1):=qF HB0.o b1;clear hmany b1;go_enter func61,ntmps61
 go_wp2_with (first
   |(go_at_call 131;(with_reducible refine(yl H1 _).mono ?_);rintro e w3 ⟨rfl,rfl⟩)
   |(go_at_call 131;(with_reducible refine(yl H2 _).mono ?_);rintro e w3 ⟨rfl,rfl⟩)
   |(go_at_call 131;(with_reducible refine(yl H3 _).mono ?_);rintro e w3 ⟨rfl,rfl⟩))
 rw[s0]at HS1;clear hw1 hmm hw0 f0 f1 f2 f3 g0;go_loopw [31] (λi wr=> ∃ (k:Nat) (S:Lit->Bool),(k<=l.length/\i= .int .i64 k)/\Hid (QV ((l.take k).map (·.id)) S/\Zv wr (w.heap.size+1) k S)/\Hid (wU zQ (l.take k) (l.drop k)=r)/\Bl w wr) (λi _=>l.length-(intOf i).toNat)
 case atStart=>exact⟨0,_,⟨qAD _,rfl⟩,⟨Ql,HS1.o⟩,HR,B1.o⟩
 obtain⟨k,S,⟨hk,rfl⟩,HSS,HC,hbl⟩:=hrel;have z1:=hbl.size;by_cases hlt:k<l.length
 ·
  obtain⟨bl',ol,x,rfl,hbs,hx,hc⟩:=HL.o.get hlt hbl hB;have d0:wr.cell? ⟨bl',ol+k*6,none⟩=some (qP x.id):=hc 0 _ rfl;have d1:wr.cell? ⟨bl',ol+k*6+1,none⟩=some (.int .i64 x.price):=hc 1 _ rfl;have d2:wr.cell? ⟨bl',ol+k*6+2,none⟩=some (.int .i64 x.rides):=hc 2 _ rfl;have d3:wr.cell? ⟨bl',ol+k*6+3,none⟩=some (.int .i64 x.zones):=hc 3 _ rfl;have d4:wr.cell? ⟨bl',ol+k*6+4,none⟩=some (.int .i64 x.secs):=hc 4 _ rfl;have d5:wr.cell? ⟨bl',ol+k*6+5,none⟩=some (.int .i64 x.modes):=hc 5 _ rfl;have hkI:(k:Int)<(l.length:Int):=ω
  have HX:=qA hx;have hsz:=hs.o x (Uz hx);clear hx hc;obtain⟨p,hp⟩:=ε (jU x.id);obtain⟨q,hq⟩:=ε (S (.string x.id));have HP:=qA hp;have HQ:Hid (((l.take k).any λy=>y.id==x.id)=q):=by show _=_;rw[JS (l.take k) (·.id) HSS.o.1,hq]
  obtain⟨w2,hw2⟩:=ε (wr.alloc (.cells #[qP x.id, .int .i64 x.price, .int .i64 x.rides, .int .i64 x.zones, .int .i64 x.secs, .int .i64 x.modes] 65));have b2:Bl wr w2:=by rw[<-hw2];exact qE (qB _) _
  have t0:w2.cell? ⟨wr.heap.size,0,none⟩=some (qP x.id):=by rw[<-hw2,Uy (hn:=rfl)];rfl
  have t1:w2.cell? ⟨wr.heap.size,1,none⟩=some (.int .i64 x.price):=by rw[<-hw2,Uy (hn:=rfl)];rfl
  have t2:w2.cell? ⟨wr.heap.size,2,none⟩=some (.int .i64 x.rides):=by rw[<-hw2,Uy (hn:=rfl)];rfl
  have t3:w2.cell? ⟨wr.heap.size,3,none⟩=some (.int .i64 x.zones):=by rw[<-hw2,Uy (hn:=rfl)];rfl
  have t4:w2.cell? ⟨wr.heap.size,4,none⟩=some (.int .i64 x.secs):=by rw[<-hw2,Uy (hn:=rfl)];rfl
  have t5:w2.cell? ⟨wr.heap.size,5,none⟩=some (.int .i64 x.modes):=by rw[<-hw2,Uy (hn:=rfl)];rfl
  have s2:w2.heap.size=wr.heap.size+1:=by rw[<-hw2];simp
  have B2:Hid (Bl w w2):=qF hbl b2;have hset:=HSS.o.2.bl b2;have hlook:=hset.look xM underlying166 underlying4 (yR w2) (xJ hsz);rw[hq]at hlook;obtain⟨wa,ha1,ha2,ha3⟩:=hset.put xM underlying166 underlying4 ζ (xJ hsz);have HA2:=qA ha2;have HA3:=qA ha3;clear hp hq b2 hset ha2 ha3;have hid:=λw=>Ms.Y6 ⟨x.id.toArray⟩ (by show x.id.toArray.size<=_;rw[List.size_toArray];unfold maxLen;omega) p HP w
  obtain⟨c1,h1⟩:=ε (qK x.price 0 1000000);obtain⟨c2,h2⟩:=ε (qK x.rides 1 8);obtain⟨c3,h3⟩:=ε (qK x.zones 1 16);obtain⟨c4,h4⟩:=ε (qK x.secs 0 86400);obtain⟨c5,h5⟩:=ε (qK x.modes 1 255);have C1:=qA h1;have C2:=qA h2;have C3:=qA h3;have C4:=qA h4;have C5:=qA h5;have HW:Hid ((qK x.price 0 1000000||(qK x.rides 1 8||(qK x.zones 1 16||(qK x.secs 0 86400||qK x.modes 1 255))))=(c1||(c2||(c3||(c4||c5))))):=by show _=_;rw[h1,h2,h3,h4,h5]
  clear h1 h2 h3 h4 h5;cases p with
  |false=>
   have HE:=qA (qU (err:=zQ) HX.o (show zQ (l.take k) x=12 by unfold zQ;rw[U6 HP.o]) δ);go_wp2_with (go_at_call 119;refine(hid _).mono ?_;rintro e w3 ⟨rfl,rfl⟩)
   go_ret2;exact⟨qY HE.o HC.o,B2.o⟩
  |true=>
   have HP1:=qA (show ¬ jU x.id=false by rw[HP.o];decide);cases q with
   |true=>
    have HE:=qA (qU (err:=zQ) HX.o (show zQ (l.take k) x=6 by unfold zQ;rw[U5 HP1.o,U6 HQ.o]) δ);go_wp2_with (go_at_call 119;refine(hid _).mono ?_;rintro e w3 ⟨rfl,rfl⟩)
    go_ret2;exact⟨qY HE.o HC.o,B2.o⟩
   |false=>
    have HQ1:=qA (show ¬ ((l.take k).any λy=>y.id==x.id)=true by rw[HQ.o];decide);go_wp2_with (first
     |(go_at_call 119;refine(hid _).mono ?_;rintro e w3 ⟨rfl,rfl⟩)
     |(go_at_call 131;(with_reducible refine(yl C1 _).mono ?_);rintro e w3 ⟨rfl,rfl⟩;cases c1)
     |(go_at_call 131;(with_reducible refine(yl C2 _).mono ?_);rintro e w3 ⟨rfl,rfl⟩;cases c2)
     |(go_at_call 131;(with_reducible refine(yl C3 _).mono ?_);rintro e w3 ⟨rfl,rfl⟩;cases c3)
     |(go_at_call 131;(with_reducible refine(yl C4 _).mono ?_);rintro e w3 ⟨rfl,rfl⟩;cases c4)
     |(go_at_call 131;(with_reducible refine(yl C5 _).mono ?_);rintro e w3 ⟨rfl,rfl⟩;cases c5))
    all_goals first
     |
      go_ret2;have HE:=qU (err:=zQ) (e:=2) HX.o (by unfold zQ;rw[U5 HP1.o,U5 HQ1.o,U6 (by rw[HW.o];simp)]) δ;exact⟨qY HE HC.o,B2.o⟩
     |have HG:=jS (err:=zQ) HX.o (by unfold zQ;rw[U5 HP1.o,U5 HQ1.o,U5 (by rw[HW.o];decide)])
      exact⟨⟨k+1,_,⟨ω,by go_num⟩,⟨by rw[KH (·.id) HX.o];exact HSS.o.1.snoc x.id,HA2.o⟩,HG.symm.trans HC.o,B2.o.grown HA3.o ω (λk hk=>by cases hk;omega)⟩,by simp[intOf];omega⟩
 have HE:=qA (jy (err:=zQ) (show l.length<=k by omega));go_wp2;go_ret2;exact⟨qY HE.o HC.o,hbl⟩
