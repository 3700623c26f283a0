/- Contracts, proved. Conditions: each contract's own. -/
import Derived.Test.YtakedkcjplfgeaaGreatDoorMRkX
set_option maxRecDepth 1000000
set_option maxHeartbeats 32000000
namespace Go.Proofs.YtakedkcjplfgeaaGreatDoor
open Go.RowKit
open Frq Thr Tt
theorem Xf: ∀ {ids:List (List UInt8)} {x:List UInt8},qm x ids=none-> ∀ j:Nat,ids[j]? ≠some x
 |[],_,_,j=>by simp
 |y::r,x,h,j=>by
  rw[Jb]at h;split at h
  · cases h
  ·
   rename_i hne;cases j with
   |zero=>simpa using hne
   |succ j=>
    rw[List.getElem?_cons_succ];refine Xf ?_ j;cases hq:qm x r with
    |none=>rfl
    |some i=>rw[hq]at h;cases h
theorem BR {ids:List (List UInt8)} {x y:List UInt8} {k:Nat} (h: ∀ j,j<k->ids[j]? ≠some x) (hy:ids[k]? =some y) (hn:(y==x)=false): ∀ j,j<k+1->ids[j]? ≠some x:=fun j hj=>by
 rcases Nat.lt_succ_iff_lt_or_eq.1 hj with h'|rfl
 · exact h j h'
 ·
  rw[hy];intro e;rw[qAB e]at hn;simp at hn
theorem Wh {α:Type} (f:α->List UInt8) {l:List α} {k:Nat} {x:α} (hx:l[k]? =some x): ∃ j:Nat,qm (f x) (l.map f)=some j/\j<=k/\((l.take k).any (fun y=>f y==f x)=decide (j<k)):=by
 have hk:k<l.length:=(Uw.1 hx).1;cases h:qm (f x) ((l.take k).map f)with
 |some j=>
  have hj:=yw h;rw[List.getElem?_map]at hj;obtain⟨y,hy,hf⟩:=Option.map_eq_some_iff.1 hj;have hjk:j<k:=by
   have:=(Uw.1 hy).1;rw[List.length_take]at this;omega
  refine⟨j, ?_,by omega, ?_⟩
  ·
   have:=ZF (f x) ((l.take k).map f) ((l.drop k).map f);rw[<-List.map_append,List.take_append_drop,h]at this;exact this
  ·
   rw[decide_eq_true hjk];exact Zb hy (by rw[hf];simp)
 |none=>
  refine⟨k, ?_,by omega, ?_⟩
  ·
   have:=ZF (f x) ((l.take k).map f) ((l.drop k).map f);rw[<-List.map_append,List.take_append_drop,h,List.drop_eq_getElem_cons hk,List.map_cons,Jb]at this;rw[(Uw.1 hx).2,U6 rfl]at this;rw[this];simp
   omega
  ·
   rw[decide_eq_false (by omega),Bool.eq_false_iff];intro hc;obtain⟨y,hy,he⟩:=List.any_eq_true.1 hc;obtain⟨j,hj⟩:=List.getElem?_of_mem hy;exact Xf h j (by rw[List.getElem?_map,hj];exact congrArg some (beq_iff_eq.1 he))
theorem Hw (s:ByteArray) (hs:s.size<=maxLen) (b:Bool) (H:Hid (jU s.data.toList=b)) (w:World):
  Calls Tryz.prog 163 #[.string s] w fun e w'=>e= .returned (.bool b)/\w=w':=by
 unfold maxLen at hs;have hn:=yB s;by_cases hlen: ¬ (1<=s.size/\s.size<=32)
 ·
  have HF:=qA (show b=false by
   rw[<-H.out];unfold jU;rw[hn,Bool.and_eq_false_iff];right;rw[Bool.and_eq_false_iff,decide_eq_false_iff_not,decide_eq_false_iff_not];omega)
  rcases Nat.lt_or_ge s.size 1 with h|h
  ·
   go_enter Tryz.func163,Tryz.ntmps163
   go_wp2;go_ret;exact⟨qO HF.out.symm,rfl⟩
  ·
   have h2:32<s.size:=by omega
   go_enter Tryz.func163,Tryz.ntmps163
   go_wp2;go_ret;exact⟨qO HF.out.symm,rfl⟩
 have hl1:1<=s.size:=by omega
 have hl2:s.size<=32:=by omega
 go_enter Tryz.func163,Tryz.ntmps163
 go_wp2;go_loop [3] (fun i=> ∃ k:Nat,k<=s.size/\i= .int .i64 k/\Hid (∀ j (h:j<s.size),j<k->wW (s[j]'h)=true)) (fun i=>s.size-(intOf i).toNat)
 case atStart=>exact⟨0,qAD _,rfl,fun j h hj=>absurd hj (by omega)⟩
 case round=>
  obtain⟨k,hk,rfl,HK⟩:=hrel;by_cases hlt:k<s.size
  ·
   rcases Ms.Qy (s[k]'hlt)with⟨h1,hc⟩|⟨h1,hc⟩
   ·
    have HN:=qA (show ∀ j (h:j<s.size),j<k+1->wW (s[j]'h)=true from fun j h hj=>by
     by_cases e:j=k
     · subst e;exact h1
     · exact HK.out j h (by omega))
    clear h1;rcases hc with h|h|h|h|h|h
    all_goals
     go_wp2;go_round;case rel=>exact⟨k+1,by omega,by go_num,HN⟩
     case measure=>simp[intOf];omega
   ·
    have HF:=qA (show b=false by rw[<-H.out];unfold jU;rw[Ms.WW hlt h1];rfl);clear h1;have q1:(((s[k]'hlt).toNat:Int)==45)=false:=by rw[U0];omega
    have q2:(((s[k]'hlt).toNat:Int)==95)=false:=by rw[U0];omega
    have q3:(((s[k]'hlt).toNat:Int)==46)=false:=by rw[U0];omega
    rcases hc with h|h|h|h|h|h
    all_goals
     go_wp2;all_goals(try(rename_i hx;exfalso;simp at hx;omega))
     go_ret;exact⟨qO HF.out.symm,rfl⟩
  ·
   have HF:=qA (show b=true by
    rw[<-H.out];unfold jU;rw[Ms.Yp (fun j h=>HK.out j h (by omega)),hn,decide_eq_true hl1,decide_eq_true hl2];rfl)
   go_wp2;go_ret;exact⟨qO HF.out.symm,rfl⟩
theorem oQ (s:ByteArray) (hs:s.size<=maxLen) (b:Bool) (H:Hid (jU s.data.toList=b)) (w:World):
  Calls Tryz.prog 167 #[.string s] w fun e w'=>e= .returned (.bool b)/\w=w':=by
 unfold maxLen at hs;have hn:=yB s;by_cases hlen: ¬ (1<=s.size/\s.size<=32)
 ·
  have HF:=qA (show b=false by
   rw[<-H.out];unfold jU;rw[hn,Bool.and_eq_false_iff];right;rw[Bool.and_eq_false_iff,decide_eq_false_iff_not,decide_eq_false_iff_not];omega)
  rcases Nat.lt_or_ge s.size 1 with h|h
  ·
   go_enter Tryz.func167,Tryz.ntmps167
   have h0:s.size=0:=by omega
   go_wp2;go_ret;exact⟨qO HF.out.symm,rfl⟩
  ·
   have h2:32<s.size:=by omega
   have h0:((s.size:Int)==0)=false:=by rw[U0];omega
   go_enter Tryz.func167,Tryz.ntmps167
   go_wp2;go_ret;exact⟨qO HF.out.symm,rfl⟩
 have hl1:1<=s.size:=by omega
 have hl2:s.size<=32:=by omega
 have h0:((s.size:Int)==0)=false:=by rw[U0];omega
 go_enter Tryz.func167,Tryz.ntmps167
 go_wp2;go_loop [3] (fun i=> ∃ k:Nat,k<=s.size/\i= .int .i64 k/\Hid (∀ j (h:j<s.size),j<k->wW (s[j]'h)=true)) (fun i=>s.size-(intOf i).toNat)
 case atStart=>exact⟨0,qAD _,rfl,fun j h hj=>absurd hj (by omega)⟩
 case round=>
  obtain⟨k,hk,rfl,HK⟩:=hrel;by_cases hlt:k<s.size
  ·
   rcases Ms.Qy (s[k]'hlt)with⟨h1,hc⟩|⟨h1,hc⟩
   ·
    have HN:=qA (show ∀ j (h:j<s.size),j<k+1->wW (s[j]'h)=true from fun j h hj=>by
     by_cases e:j=k
     · subst e;exact h1
     · exact HK.out j h (by omega))
    clear h1;rcases hc with h|h|h|h|h|h
    all_goals
     go_wp2;go_round;case rel=>exact⟨k+1,by omega,by go_num,HN⟩
     case measure=>simp[intOf];omega
   ·
    have HF:=qA (show b=false by rw[<-H.out];unfold jU;rw[Ms.WW hlt h1];rfl);clear h1;have q1:(((s[k]'hlt).toNat:Int)==45)=false:=by rw[U0];omega
    have q2:(((s[k]'hlt).toNat:Int)==95)=false:=by rw[U0];omega
    have q3:(((s[k]'hlt).toNat:Int)==46)=false:=by rw[U0];omega
    rcases hc with h|h|h|h|h|h
    all_goals
     go_wp2;all_goals(try(rename_i hx;exfalso;simp at hx;omega))
     go_ret;exact⟨qO HF.out.symm,rfl⟩
  ·
   have HF:=qA (show b=true by
    rw[<-H.out];unfold jU;rw[Ms.Yp (fun j h=>HK.out j h (by omega)),hn,decide_eq_true hl1,decide_eq_true hl2];rfl)
   go_wp2;go_ret;exact⟨qO HF.out.symm,rfl⟩
theorem MZ (vl:Value) (l:List ZH) (id:List UInt8) (r:Int) (H:Hid (bI (qm id (l.map (·.id)))=r)) (B:Nat) (w:World) (hl:jA jY 4 B w vl l) (hB:B<=w.heap.size):
  Calls Tryz.prog 164 #[vl,qP id] w fun e w'=>e= .returned (.int .i64 r)/\Bl w w':=by
 obtain⟨al,capl,rfl,ll1,ll2⟩:=hl.val;have HL:=qA hl;clear hl;go_enter Tryz.func164,Tryz.ntmps164
 go_wp2_with fail;go_loopw [5] (fun i wr=> ∃ k:Nat,(k<=l.length/\i= .int .i64 k)/\Hid (∀ j,j<k->(l.map (·.id))[j]? ≠some id)/\Hid (Bl w wr)) (fun i _=>l.length-(intOf i).toNat)
 case atStart=>exact⟨0,⟨qAD _,rfl⟩,fun j hj=>absurd hj (Nat.not_lt_zero j),qB _⟩
 case round=>
  obtain⟨k,⟨hk,rfl⟩,HN,HBL⟩:=hrel;by_cases hlt:k<l.length
  ·
   obtain⟨bl',ol,x,rfl,hbs,hx,hc⟩:=HL.out.get hlt HBL.out hB;obtain⟨xi,hxi⟩: ∃ xi,(·.id) x=xi:=⟨_,rfl⟩;have d0:wr.cell? ⟨bl',ol+k*4,none⟩=some (qP xi):=by rw[<-hxi];exact hc 0 _ rfl
   have hkI:(k:Int)<(l.length:Int):=by omega
   have HX:=qA (show(l.map (·.id))[k]? =some xi by rw[List.getElem?_map,hx,<-hxi];rfl);clear hx hc hxi;cases hq:xi==id with
   |true=>
    have HR:=qA (show(k:Int)=r by rw[<-H.out,yE HN.out (HX.out.trans (congrArg some (beq_iff_eq.1 hq)))];rfl);go_wp2_with fail;try go_quiet (fail)
    try go_wp2
    go_ret;exact⟨qR HR.out,HBL.out⟩
   |false=>
    have HN':=qA (BR HN.out HX.out hq);go_wp2_with fail;try go_quiet (fail)
    try go_wp2
    go_roundw;case rel=>exact⟨k+1,⟨by omega,by go_num⟩,HN',HBL⟩
    case measure=>simp[intOf];omega
  ·
   have HR:=qA (show(-1:Int)=r by rw[<-H.out,Jc (fun j hj=>HN.out j (by rw[U4]at hj;omega))];rfl);go_wp2;go_ret;exact⟨qR HR.out,HBL.out⟩
theorem jA.cellsAt {α:Type} {cells:α->List Value} {sz B:Nat} {w:World} {xs:List α} {b o n cap:Nat} (h:jA cells sz B w (.slice (some ⟨b,o,none⟩) n cap) xs) {k:Nat} {x:α} (hx:xs[k]? =some x) {w':World} (hb:Bl w w') (hB:B<=w.heap.size) (j:Nat) (u:Value) (hu:(cells x)[j]? =some u):w'.cell? ⟨b,o+k*sz+j,none⟩=some u:=by
 obtain⟨b',o',y,ha,-,hy,hc⟩:=h.get (Uw.1 hx).1 hb hB;simp only[qAA,Addr.mk.injEq]at ha;obtain⟨rfl,rfl,-⟩:=ha;rw[hx]at hy;obtain rfl:=qAB hy;exact hc j u hu
theorem Jz {α:Type} {p:α->Bool} {l:List α} {j:Nat} {y:α} (hy:l[j]? =some y) (h:(l.take j).any p=false) (hp:p y=false):(l.take (j+1)).any p=false:=by
 rw[ql hy,List.any_append,h];simp[hp]
theorem XF {α:Type} {p:α->Bool} {l:List α} {j k:Nat} {y:α} (hy:l[j]? =some y) (hj:j<k) (hp:p y=true):(l.take k).any p=true:=
 Zb (l:=l.take k) (k:=j) (by rw[List.getElem?_take_of_lt hj];exact hy) hp
theorem IE (vl:Value) (l:List ZH) (r:Int×Int) (H:Hid (qZ 64 zI l=r)) (hs:Hid (∀ x∈l,x.id.length<=9223372036854775807)) (B:Nat) (w:World) (hl:jA jY 4 B w vl l) (hB:B<=w.heap.size):
  Calls Tryz.prog 93 #[vl] w fun e w'=>e= .returned (.tuple #[.int .i64 r.1, .int .i64 r.2])/\Bl w w':=by
 obtain⟨al,capl,rfl,ll1,ll2⟩:=hl.val;have HL:=qA hl;clear hl;by_cases hmany:64<l.length
 ·
  have HR:=qA (zM (err:=zI) hmany);go_enter Tryz.func93,Tryz.ntmps93
  go_wp2;go_ret2;exact⟨qY HR.out H.out,qB _⟩
 have hfew:l.length<=64:=by omega
 have HR:Hid (wU zI (l.take 0) (l.drop 0)=r):=(zf hfew).symm.trans H.out;clear hmany;go_enter Tryz.func93,Tryz.ntmps93
 go_wp2_with fail;go_loopw [4] (fun i wr=> ∃ k:Nat,(k<=l.length/\i= .int .i64 k)/\Hid (wU zI (l.take k) (l.drop k)=r)/\Hid (Bl w wr)) (fun i _=>l.length-(intOf i).toNat)
 case atStart=>exact⟨0,⟨qAD _,rfl⟩,HR,qB _⟩
 case round=>
  obtain⟨k,⟨hk,rfl⟩,HC,HBL⟩:=hrel;by_cases hlt:k<l.length
  rotate_left
  ·
   have HE:=qA (jy (err:=zI) (show l.length<=k by omega));go_wp2;go_ret2;exact⟨qY HE.out HC.out,HBL.out⟩
  obtain⟨bl',ol,x,rfl,hbs,hx,hc⟩:=HL.out.get hlt HBL.out hB;have d0:wr.cell? ⟨bl',ol+k*4,none⟩=some (qP x.id):=hc 0 _ rfl;have d1:wr.cell? ⟨bl',ol+k*4+1,none⟩=some (.int .i64 x.zone):=hc 1 _ rfl;have d3:wr.cell? ⟨bl',ol+k*4+3,none⟩=some (.int .i64 x.change):=hc 3 _ rfl;have hkI:(k:Int)<(l.length:Int):=by omega
  have HX:=qA hx;have hsz:=hs.out x (Uz hx);obtain⟨j,hj,hjk,hany⟩:=Wh (·.id) hx;have HA:=qA hany;have hf:=MZ (.slice (some ⟨bl',ol,none⟩) l.length capl) l x.id j (by show bI _=_;rw[hj];rfl) B wr (HL.out.out HBL.out hB) (Ux hB HBL.out.size);obtain⟨p,hp⟩: ∃ p,jU x.id=p:=⟨_,rfl⟩;have HP:=qA hp;have hid:=Hw ⟨x.id.toArray⟩ (by show x.id.toArray.size<=_;rw[List.size_toArray];unfold maxLen;omega) p HP wr;clear hp hx hc hj hany;cases p with
  |false=>
   have HE:=qA (qU (err:=zI) HX.out (show zI (l.take k) x=12 by unfold zI;rw[U6 HP.out]) (by decide));go_wp2_with (go_at_call 163;refine hid.mono ?_;rintro e w3 ⟨rfl,rfl⟩)
   go_ret2;exact⟨qY HE.out HC.out,HBL.out⟩
  |true=>
   have HP1:=qA (show ¬ jU x.id=false by rw[HP.out];decide);by_cases hd:(j:Int)<k
   ·
    have HE:=qA (qU (err:=zI) HX.out (show zI (l.take k) x=6 by unfold zI;rw[U5 HP1.out,U6 (HA.out.trans (decide_eq_true (by omega)))]) (by decide));go_wp2_with (first|(go_at_call 163;refine hid.mono ?_;rintro e w3 ⟨rfl,rfl⟩)|(go_at_call 164;refine hf.mono ?_;rintro e w3 ⟨rfl,b3⟩))
    go_ret2;exact⟨qY HE.out HC.out,qF HBL.out b3⟩
   have HQ1:=qA (show ¬ ((l.take k).any fun y=>y.id==x.id)=true by rw[HA.out,decide_eq_false (by omega)];decide);go_wp2_with (first|(go_at_call 163;refine hid.mono ?_;rintro e w3 ⟨rfl,rfl⟩)|(go_at_call 164;refine hf.mono ?_;rintro e w3 ⟨rfl,b3⟩;have B3:=qA (qF HBL.out b3);have e1:w3.cell? ⟨bl',ol+k*4+1,none⟩=some (.int .i64 x.zone):=((qG b3).1 _ _ hbs).trans d1;have e3:w3.cell? ⟨bl',ol+k*4+3,none⟩=some (.int .i64 x.change):=((qG b3).1 _ _ hbs).trans d3;clear b3 d1 d3))
   all_goals first
    |
     go_ret2;have HE:=qU (err:=zI) HX.out (show zI (l.take k) x=2 by unfold zI;rw[U5 HP1.out,U5 HQ1.out,U6 (by unfold qK;simp;omega)]) (by decide);exact⟨qY HE HC.out,B3.out⟩
    |have HG:=jS (err:=zI) HX.out (show zI (l.take k) x=0 by unfold zI;rw[U5 HP1.out,U5 HQ1.out,U5 (by unfold qK;simp;omega)])
     exact⟨⟨k+1,⟨by omega,by go_num⟩,HG.symm.trans HC.out,B3.out⟩,by simp[intOf];omega⟩
theorem Mc (m:Int) (w:World):Calls Tryz.prog 166 #[.int .i64 m] w fun e w'=>e= .returned (.bool (!qK m 0 7))/\w=w':=by
 by_cases h0:m<0
 ·
  have hf:qK m 0 7=true:=by unfold qK;simp;omega
  rw[hf];go_enter Tryz.func166,Tryz.ntmps166
  go_wp2;go_ret;first|exact⟨rfl,rfl⟩|exact⟨qO (by simp;omega),rfl⟩
 by_cases h7:7<m
 ·
  have hf:qK m 0 7=true:=by unfold qK;simp;omega
  rw[hf];go_enter Tryz.func166,Tryz.ntmps166
  go_wp2;all_goals first
   |(exfalso;omega)
   |(go_ret;first|exact⟨rfl,rfl⟩|exact⟨qO (by simp;omega),rfl⟩)
 ·
  have hf:qK m 0 7=false:=by unfold qK;simp;omega
  rw[hf];go_enter Tryz.func166,Tryz.ntmps166
  go_wp2;all_goals first
   |(exfalso;omega)
   |(go_ret;first|exact⟨rfl,rfl⟩|exact⟨qO (by simp;omega),rfl⟩)
theorem Dx (vl:Value) (l:List xy) (r:Int×Int) (H:Hid (qZ 64 zA l=r)) (hs:Hid (∀ x∈l,x.id.length<=9223372036854775807)) (B:Nat) (w:World) (hl:jA jP 3 B w vl l) (hB:B<=w.heap.size):
  Calls Tryz.prog 94 #[vl] w fun e w'=>e= .returned (.tuple #[.int .i64 r.1, .int .i64 r.2])/\Bl w w':=by
 obtain⟨al,capl,rfl,ll1,ll2⟩:=hl.val;have HL:=qA hl;clear hl;by_cases hmany:64<l.length
 ·
  have HR:=qA (zM (err:=zA) hmany);go_enter Tryz.func94,Tryz.ntmps94
  go_wp2;go_ret2;exact⟨qY HR.out H.out,qB _⟩
 have hfew:l.length<=64:=by omega
 have HR:Hid (wU zA (l.take 0) (l.drop 0)=r):=(zf hfew).symm.trans H.out;clear hmany;go_enter Tryz.func94,Tryz.ntmps94
 go_wp2_with fail;go_loopw [4] (fun i wr=> ∃ k:Nat,(k<=l.length/\i= .int .i64 k)/\Hid (wU zA (l.take k) (l.drop k)=r)/\Hid (Bl w wr)) (fun i _=>l.length-(intOf i).toNat)
 case atStart=>exact⟨0,⟨qAD _,rfl⟩,HR,qB _⟩
 case round=>
  obtain⟨k,⟨hk,rfl⟩,HC,HBL⟩:=hrel;by_cases hlt:k<l.length
  rotate_left
  ·
   have HE:=qA (jy (err:=zA) (show l.length<=k by omega));go_wp2;go_ret2;exact⟨qY HE.out HC.out,HBL.out⟩
  obtain⟨bl',ol,x,rfl,hbs,hx,hc⟩:=HL.out.get hlt HBL.out hB;have d0:wr.cell? ⟨bl',ol+k*3,none⟩=some (qP x.id):=hc 0 _ rfl;have hkI:(k:Int)<(l.length:Int):=by omega
  have HX:=qA hx;have hsz:=hs.out x (Uz hx);obtain⟨p,hp⟩: ∃ p,jU x.id=p:=⟨_,rfl⟩;have HP:=qA hp;have hid:=Ms.Bf ⟨x.id.toArray⟩ (by show x.id.toArray.size<=_;rw[List.size_toArray];unfold maxLen;omega) p HP wr;clear hp hx hc;cases p with
  |false=>
   have HE:=qA (qU (err:=zA) HX.out (show zA (l.take k) x=12 by unfold zA;rw[U6 HP.out]) (by decide));go_wp2_with (go_at_call 165;refine hid.mono ?_;rintro e w3 ⟨rfl,rfl⟩)
   go_ret2;exact⟨qY HE.out HC.out,HBL.out⟩
  |true=>
  have HP1:=qA (show ¬ jU x.id=false by rw[HP.out];decide);go_wp2_with (go_at_call 165;refine hid.mono ?_;rintro e w3 ⟨rfl,rfl⟩)
  rename World=>wo
  clear hid d0;go_loopw [5] (fun i wr=> ∃ j:Nat,(j<=k/\i= .int .i64 j)/\Hid ((l.take j).any (fun y=>y.id==x.id)=false)/\Hid (Bl w wr)) (fun i _=>k-(intOf i).toNat)
  case atStart=>exact⟨0,⟨qAD _,rfl⟩,rfl,HBL⟩
  case round=>
   obtain⟨j,⟨hj,rfl⟩,HN,HBR⟩:=hrel;by_cases hjk:j<k
   ·
    obtain⟨y,hy⟩: ∃ y,l[j]? =some y:=⟨_,U2 (by omega)⟩;have x0:wr.cell? ⟨bl',ol+k*3,none⟩=some (qP x.id):=HL.out.cellsAt HX.out HBR.out hB 0 _ rfl;have y0:wr.cell? ⟨bl',ol+j*3,none⟩=some (qP y.id):=HL.out.cellsAt hy HBR.out hB 0 _ rfl;have hjI:(j:Int)<(l.length:Int):=by omega
    have hjk':(j:Int)<(k:Int):=by omega
    have HY:=qA hy;clear hy;cases hq:y.id==x.id with
    |true=>
     have HE:=qA (qU (err:=zA) HX.out (show zA (l.take k) x=6 by unfold zA;rw[U5 HP1.out,U6 (XF HY.out hjk hq)]) (by decide));go_wp2_with fail;go_quiet (fail)
     go_wp2;go_ret2;exact⟨qY HE.out HC.out,qM HBR.out _⟩
    |false=>
     have HN':=qA (Jz HY.out HN.out hq);go_wp2_with fail;go_quiet (fail)
     go_wp2;go_roundw;case rel=>exact⟨j+1,⟨by omega,by go_num⟩,HN',qM HBR.out _⟩
     case measure=>simp[intOf];omega
   ·
    obtain rfl:j=k:=by omega
    have HQ1:=qA (show ¬ ((l.take j).any fun y=>y.id==x.id)=true by rw[HN.out];decide);have d1:wr.cell? ⟨bl',ol+j*3+1,none⟩=some (.int .i64 x.mode):=HL.out.cellsAt HX.out HBR.out hB 1 _ rfl;obtain⟨o,ho⟩: ∃ o,qK x.mode 0 7=o:=⟨_,rfl⟩;have HO:=qA ho;have hm:=Mc x.mode wr;rw[ho]at hm;clear ho;cases o with
    |true=>
     have HE:=qA (qU (err:=zA) HX.out (show zA (l.take j) x=2 by unfold zA;rw[U5 HP1.out,U5 HQ1.out,U6 HO.out]) (by decide));go_wp2_with (go_at_call 166;refine hm.mono ?_;rintro e w4 ⟨rfl,rfl⟩)
     go_ret2;exact⟨qY HE.out HC.out,HBR.out⟩
    |false=>
     have HG:=qA (jS (err:=zA) HX.out (show zA (l.take j) x=0 by unfold zA;rw[U5 HP1.out,U5 HQ1.out,U5 (by rw[HO.out];decide)]));go_wp2_with (go_at_call 166;refine hm.mono ?_;rintro e w4 ⟨rfl,rfl⟩)
     exact⟨⟨j+1,⟨by omega,by go_num⟩,HG.out.symm.trans HC.out,HBR.out⟩,by simp[intOf];omega⟩
theorem MV (vl:Value) (l:List Yj) (r:Int×Int) (H:Hid (qZ 64 zZ l=r)) (hs:Hid (∀ x∈l,x.id.length<=9223372036854775807)) (B:Nat) (w:World) (hl:jA kD 10 B w vl l) (hB:B<=w.heap.size):
  Calls Tryz.prog 95 #[vl] w fun e w'=>e= .returned (.tuple #[.int .i64 r.1, .int .i64 r.2])/\Bl w w':=by
 obtain⟨al,capl,rfl,ll1,ll2⟩:=hl.val;have HL:=qA hl;clear hl;by_cases hmany:64<l.length
 ·
  have HR:=qA (zM (err:=zZ) hmany);go_enter Tryz.func95,Tryz.ntmps95
  go_wp2;go_ret2;exact⟨qY HR.out H.out,qB _⟩
 have hfew:l.length<=64:=by omega
 have HR:Hid (wU zZ (l.take 0) (l.drop 0)=r):=(zf hfew).symm.trans H.out;clear hmany;go_enter Tryz.func95,Tryz.ntmps95
 go_wp2_with fail;go_loopw [4] (fun i wr=> ∃ k:Nat,(k<=l.length/\i= .int .i64 k)/\Hid (wU zZ (l.take k) (l.drop k)=r)/\Hid (Bl w wr)) (fun i _=>l.length-(intOf i).toNat)
 case atStart=>exact⟨0,⟨qAD _,rfl⟩,HR,qB _⟩
 case round=>
  obtain⟨k,⟨hk,rfl⟩,HC,HBL⟩:=hrel;by_cases hlt:k<l.length
  rotate_left
  ·
   have HE:=qA (jy (err:=zZ) (show l.length<=k by omega));go_wp2;go_ret2;exact⟨qY HE.out HC.out,HBL.out⟩
  obtain⟨bl',ol,x,rfl,hbs,hx,hc⟩:=HL.out.get hlt HBL.out hB;have d0:wr.cell? ⟨bl',ol+k*10,none⟩=some (qP x.id):=hc 0 _ rfl;have hkI:(k:Int)<(l.length:Int):=by omega
  have HX:=qA hx;have hsz:=hs.out x (Uz hx);obtain⟨p,hp⟩: ∃ p,jU x.id=p:=⟨_,rfl⟩;have HP:=qA hp;have hid:=oQ ⟨x.id.toArray⟩ (by show x.id.toArray.size<=_;rw[List.size_toArray];unfold maxLen;omega) p HP wr;clear hp hx hc;cases p with
  |false=>
   have HE:=qA (qU (err:=zZ) HX.out (show zZ (l.take k) x=12 by unfold zZ;rw[U6 HP.out]) (by decide));go_wp2_with (go_at_call 167;refine hid.mono ?_;rintro e w3 ⟨rfl,rfl⟩)
   go_ret2;exact⟨qY HE.out HC.out,HBL.out⟩
  |true=>
  have HP1:=qA (show ¬ jU x.id=false by rw[HP.out];decide);go_wp2_with (go_at_call 167;refine hid.mono ?_;rintro e w3 ⟨rfl,rfl⟩)
  rename World=>wo
  clear hid d0;go_loopw [5] (fun i wr=> ∃ j:Nat,(j<=k/\i= .int .i64 j)/\Hid ((l.take j).any (fun y=>y.id==x.id)=false)/\Hid (Bl w wr)) (fun i _=>k-(intOf i).toNat)
  case atStart=>exact⟨0,⟨qAD _,rfl⟩,rfl,HBL⟩
  case round=>
   obtain⟨j,⟨hj,rfl⟩,HN,HBR⟩:=hrel;by_cases hjk:j<k
   ·
    obtain⟨y,hy⟩: ∃ y,l[j]? =some y:=⟨_,U2 (by omega)⟩;have x0:wr.cell? ⟨bl',ol+k*10,none⟩=some (qP x.id):=HL.out.cellsAt HX.out HBR.out hB 0 _ rfl;have y0:wr.cell? ⟨bl',ol+j*10,none⟩=some (qP y.id):=HL.out.cellsAt hy HBR.out hB 0 _ rfl;have hjI:(j:Int)<(l.length:Int):=by omega
    have hjk':(j:Int)<(k:Int):=by omega
    have HY:=qA hy;clear hy;cases hq:y.id==x.id with
    |true=>
     have HE:=qA (qU (err:=zZ) HX.out (show zZ (l.take k) x=6 by unfold zZ;rw[U5 HP1.out,U6 (XF HY.out hjk hq)]) (by decide));go_wp2_with fail;go_quiet (fail)
     go_wp2;go_ret2;exact⟨qY HE.out HC.out,qM HBR.out _⟩
    |false=>
     have HN':=qA (Jz HY.out HN.out hq);go_wp2_with fail;go_quiet (fail)
     go_wp2;go_roundw;case rel=>exact⟨j+1,⟨by omega,by go_num⟩,HN',qM HBR.out _⟩
     case measure=>simp[intOf];omega
   ·
    obtain rfl:j=k:=by omega
    have HQ1:=qA (show ¬ ((l.take j).any fun y=>y.id==x.id)=true by rw[HN.out];decide);have d8:wr.cell? ⟨bl',ol+j*10+8,none⟩=some (.int .i64 x.frm):=HL.out.cellsAt HX.out HBR.out hB 8 _ rfl;have d9:wr.cell? ⟨bl',ol+j*10+9,none⟩=some (.int .i64 x.to):=HL.out.cellsAt HX.out HBR.out hB 9 _ rfl;obtain⟨o1,ho1⟩: ∃ o,Yv x.frm=o:=⟨_,rfl⟩;obtain⟨o2,ho2⟩: ∃ o,Yv x.to=o:=⟨_,rfl⟩;have HO1:=qA ho1;have HO2:=qA ho2;have hd1:=fun w=>Da.Vq x.frm o1 (by show _=_;rw[ZC,HO1.out]) w
    have hd2:=fun w=>Da.Vq x.to o2 (by show _=_;rw[ZC,HO2.out]) w
    clear ho1 ho2;go_wp2_with fail;cases o1 with
    |false=>
     have HE:=qA (qU (err:=zZ) (e:=11) HX.out (by unfold zZ;rw[U5 HP1.out,U5 HQ1.out,U6 (by rw[HO1.out];rfl)]) (by decide));go_quiet (first|(go_at_call 168;with_reducible exact Calls.quiet_of_same ((hd1 _).mono fun _ _ h=>⟨h.1,h.2.symm⟩))|(go_at_call 168;with_reducible exact Calls.quiet_of_same ((hd2 _).mono fun _ _ h=>⟨h.1,h.2.symm⟩)))
     go_wp2;go_ret2;exact⟨qY HE.out HC.out,qM HBR.out _⟩
    |true=>
    cases o2 with
    |false=>
     have HE:=qA (qU (err:=zZ) (e:=11) HX.out (by unfold zZ;rw[U5 HP1.out,U5 HQ1.out,U6 (by rw[HO1.out,HO2.out];rfl)]) (by decide));go_quiet (first|(go_at_call 168;with_reducible exact Calls.quiet_of_same ((hd1 _).mono fun _ _ h=>⟨h.1,h.2.symm⟩))|(go_at_call 168;with_reducible exact Calls.quiet_of_same ((hd2 _).mono fun _ _ h=>⟨h.1,h.2.symm⟩)))
     go_wp2;go_ret2;exact⟨qY HE.out HC.out,qM HBR.out _⟩
    |true=>
    by_cases hlf:x.to<x.frm
    ·
     have HE:=qA (qU (err:=zZ) (e:=11) HX.out (by unfold zZ;rw[U5 HP1.out,U5 HQ1.out,U6 (by rw[HO1.out,HO2.out,decide_eq_true hlf];rfl)]) (by decide));go_quiet (first|(go_at_call 168;with_reducible exact Calls.quiet_of_same ((hd1 _).mono fun _ _ h=>⟨h.1,h.2.symm⟩))|(go_at_call 168;with_reducible exact Calls.quiet_of_same ((hd2 _).mono fun _ _ h=>⟨h.1,h.2.symm⟩)))
     go_wp2;go_ret2;exact⟨qY HE.out HC.out,qM HBR.out _⟩
    ·
     have HG:=qA (jS (err:=zZ) HX.out (by unfold zZ;rw[U5 HP1.out,U5 HQ1.out,U5 (by rw[HO1.out,HO2.out,decide_eq_false hlf];decide)]));go_quiet (first|(go_at_call 168;with_reducible exact Calls.quiet_of_same ((hd1 _).mono fun _ _ h=>⟨h.1,h.2.symm⟩))|(go_at_call 168;with_reducible exact Calls.quiet_of_same ((hd2 _).mono fun _ _ h=>⟨h.1,h.2.symm⟩)))
     go_wp2;exact⟨⟨j+1,⟨by omega,by go_num⟩,HG.out.symm.trans HC.out,qM HBR.out _⟩,by simp[intOf];omega⟩
theorem MX (vl:Value) (l:List Yk) (n:Int) (r:Int×Int) (H:Hid (qZ 256 (jd n) l=r)) (B:Nat) (w:World) (hl:jA kE 3 B w vl l) (hB:B<=w.heap.size):
  Calls Tryz.prog 96 #[vl, .int .i64 n] w fun e w'=>e= .returned (.tuple #[.int .i64 r.1, .int .i64 r.2])/\Bl w w':=by
 obtain⟨al,capl,rfl,ll1,ll2⟩:=hl.val;have HL:=qA hl;clear hl;by_cases hmany:256<l.length
 ·
  have HR:=qA (zM (err:=(jd n)) hmany);go_enter Tryz.func96,Tryz.ntmps96
  go_wp2;go_ret2;exact⟨qY HR.out H.out,qB _⟩
 have hfew:l.length<=256:=by omega
 have HR:Hid (wU (jd n) (l.take 0) (l.drop 0)=r):=(zf hfew).symm.trans H.out;clear hmany;go_enter Tryz.func96,Tryz.ntmps96
 go_wp2_with fail;go_loopw [6] (fun i wr=> ∃ k:Nat,(k<=l.length/\i= .int .i64 k)/\Hid (wU (jd n) (l.take k) (l.drop k)=r)/\Hid (Bl w wr)) (fun i _=>l.length-(intOf i).toNat)
 case atStart=>exact⟨0,⟨qAD _,rfl⟩,HR,qB _⟩
 case round=>
  obtain⟨k,⟨hk,rfl⟩,HC,HBL⟩:=hrel;by_cases hlt:k<l.length
  rotate_left
  ·
   have HE:=qA (jy (err:=(jd n)) (show l.length<=k by omega));go_wp2;go_ret2;exact⟨qY HE.out HC.out,HBL.out⟩
  obtain⟨bl',ol,x,rfl,hbs,hx,hc⟩:=HL.out.get hlt HBL.out hB;have d0:wr.cell? ⟨bl',ol+k*3,none⟩=some (.int .i64 x.cal):=hc 0 _ rfl;have d1:wr.cell? ⟨bl',ol+k*3+1,none⟩=some (.int .i64 x.day):=hc 1 _ rfl;have hkI:(k:Int)<(l.length:Int):=by omega
  have HX:=qA hx;clear hx hc;by_cases h9:x.cal<0∨n<=x.cal
  ·
   have HE:=qA (qU (err:=jd n) (e:=9) HX.out (by unfold jd;rw[U6 (by unfold qK;simp;omega)]) (by decide));go_wp2;all_goals first
    |(exfalso;omega)
    |(go_ret2;exact⟨qY HE.out HC.out,HBL.out⟩)
  have H9:=qA (show ¬ qK x.cal 0 (n-1)=true by unfold qK;simp;omega);have m1:0<=x.cal:=by omega
  have m2:x.cal<n:=by omega
  clear h9;obtain⟨o1,ho1⟩: ∃ o,Yv x.day=o:=⟨_,rfl⟩;have HO1:=qA ho1;have hd1:=fun w=>Da.Vq x.day o1 (by show _=_;rw[ZC,HO1.out]) w
  clear ho1;cases o1 with
  |false=>
   have HE:=qA (qU (err:=jd n) (e:=11) HX.out (by unfold jd;rw[U5 H9.out,U6 HO1.out]) (by decide));go_wp2_with (go_at_call 168;refine(hd1 _).mono ?_;rintro e w3 ⟨rfl,rfl⟩)
   go_ret2;exact⟨qY HE.out HC.out,HBL.out⟩
  |true=>
  have H11:=qA (show ¬ Yv x.day=false by rw[HO1.out];decide);have HE6:Hid ((l.take k).any (fun y=>y.cal==x.cal&&y.day==x.day)=true->wU (jd n) (l.take k) (l.drop k)=((k:Int),6)):=fun h=>qU (err:=jd n) (e:=6) HX.out (by unfold jd;rw[U5 H9.out,U5 H11.out,U6 h]) (by decide)
  go_wp2_with (go_at_call 168;refine(hd1 _).mono ?_;rintro e w3 ⟨rfl,rfl⟩)
  clear hd1 d0 d1;rename World=>wo
  go_loopw [7] (fun i wr=> ∃ j:Nat,(j<=k/\i= .int .i64 j)/\Hid ((l.take j).any (fun y=>y.cal==x.cal&&y.day==x.day)=false)/\Hid (Bl w wr)) (fun i _=>k-(intOf i).toNat)
  case atStart=>exact⟨0,⟨qAD _,rfl⟩,rfl,HBL⟩
  case round=>
   obtain⟨j,⟨hj,rfl⟩,HN,HBR⟩:=hrel;by_cases hjk:j<k
   ·
    obtain⟨y,hy⟩: ∃ y,l[j]? =some y:=⟨_,U2 (by omega)⟩;have x0:wr.cell? ⟨bl',ol+k*3,none⟩=some (.int .i64 x.cal):=HL.out.cellsAt HX.out HBR.out hB 0 _ rfl;have x1:wr.cell? ⟨bl',ol+k*3+1,none⟩=some (.int .i64 x.day):=HL.out.cellsAt HX.out HBR.out hB 1 _ rfl;have y0:wr.cell? ⟨bl',ol+j*3,none⟩=some (.int .i64 y.cal):=HL.out.cellsAt hy HBR.out hB 0 _ rfl;have y1:wr.cell? ⟨bl',ol+j*3+1,none⟩=some (.int .i64 y.day):=HL.out.cellsAt hy HBR.out hB 1 _ rfl;have hjI:(j:Int)<(l.length:Int):=by omega
    have hjk':(j:Int)<(k:Int):=by omega
    have HY:=qA hy;clear hy;cases q0:y.cal==x.cal with
    |true=>
     cases q1:y.day==x.day with
     |true=>
      have HE:=qA (HE6.out (XF (p:=(fun y=>y.cal==x.cal&&y.day==x.day)) HY.out hjk (by simp only[q0,q1];rfl)));go_wp2_with fail;go_quiet (fail)
      go_wp2;go_ret2;exact⟨qY HE.out HC.out,qM HBR.out _⟩
     |false=>
      have HN':=qA (Jz (p:=(fun y=>y.cal==x.cal&&y.day==x.day)) HY.out HN.out (by simp only[q0,q1];rfl));go_wp2_with fail;go_quiet (fail)
      go_wp2;go_roundw;case rel=>exact⟨j+1,⟨by omega,by go_num⟩,HN',qM HBR.out _⟩
      case measure=>simp[intOf];omega
    |false=>
     have HN':=qA (Jz (p:=(fun y=>y.cal==x.cal&&y.day==x.day)) HY.out HN.out (by simp only[q0];rfl));go_wp2_with fail;go_quiet (fail)
     go_wp2;go_roundw;case rel=>exact⟨j+1,⟨by omega,by go_num⟩,HN',qM HBR.out _⟩
     case measure=>simp[intOf];omega
   ·
    obtain rfl:j=k:=by omega
    have HG:=qA (jS (err:=jd n) HX.out (by unfold jd;rw[U5 H9.out,U5 H11.out,U5 (by rw[HN.out];decide)]));go_wp2;exact⟨⟨j+1,⟨by omega,by go_num⟩,HG.out.symm.trans HC.out,HBR.out⟩,by simp[intOf];omega⟩
theorem Fb {α:Type} (f:α->List UInt8) (s:List UInt8) (l:List α):(∃ j:Nat,qm s (l.map f)=some j/\(l.any fun y=>f y==s)=true)∨(qm s (l.map f)=none/\(l.any fun y=>f y==s)=false):=by
 cases h:qm s (l.map f)with
 |some j=>
  have hj:=yw h;rw[List.getElem?_map]at hj;obtain⟨y,hy,hf⟩:=Option.map_eq_some_iff.1 hj;exact .inl ⟨j,rfl,Zb hy (by rw[hf];simp)⟩
 |none=>
  refine .inr ⟨rfl, ?_⟩;rw[Bool.eq_false_iff];intro hc;obtain⟨y,hy,he⟩:=List.any_eq_true.1 hc;obtain⟨j,hj⟩:=List.getElem?_of_mem hy;exact Xf h j (by rw[List.getElem?_map,hj];exact congrArg some (beq_iff_eq.1 he))
theorem IG (vl:Value) (l:List TripD) (id:List UInt8) (r:Int) (H:Hid (bI (qm id (l.map (fun x=>x.id.data.toList)))=r)) (B:Nat) (w:World) (hl:jA tripCells 5 B w vl l) (hB:B<=w.heap.size):
  Calls Tryz.prog 226 #[vl,qP id] w fun e w'=>e= .returned (.int .i64 r)/\Bl w w':=by
 obtain⟨al,capl,rfl,ll1,ll2⟩:=hl.val;have HL:=qA hl;clear hl;go_enter Tryz.func226,Tryz.ntmps226
 go_wp2_with fail;go_loopw [5] (fun i wr=> ∃ k:Nat,(k<=l.length/\i= .int .i64 k)/\Hid (∀ j,j<k->(l.map (fun x=>x.id.data.toList))[j]? ≠some id)/\Hid (Bl w wr)) (fun i _=>l.length-(intOf i).toNat)
 case atStart=>exact⟨0,⟨qAD _,rfl⟩,fun j hj=>absurd hj (Nat.not_lt_zero j),qB _⟩
 case round=>
  obtain⟨k,⟨hk,rfl⟩,HN,HBL⟩:=hrel;by_cases hlt:k<l.length
  ·
   obtain⟨bl',ol,x,rfl,hbs,hx,hc⟩:=HL.out.get hlt HBL.out hB;obtain⟨xi,hxi⟩: ∃ xi,(fun x=>x.id.data.toList) x=xi:=⟨_,rfl⟩;have d0:wr.cell? ⟨bl',ol+k*5,none⟩=some (qP xi):=by rw[<-hxi];exact hc 0 _ rfl
   have hkI:(k:Int)<(l.length:Int):=by omega
   have HX:=qA (show(l.map (fun x=>x.id.data.toList))[k]? =some xi by rw[List.getElem?_map,hx,<-hxi];rfl);clear hx hc hxi;cases hq:xi==id with
   |true=>
    have HR:=qA (show(k:Int)=r by rw[<-H.out,yE HN.out (HX.out.trans (congrArg some (beq_iff_eq.1 hq)))];rfl);go_wp2_with fail;try go_quiet (fail)
    try go_wp2
    go_ret;exact⟨qR HR.out,HBL.out⟩
   |false=>
    have HN':=qA (BR HN.out HX.out hq);go_wp2_with fail;try go_quiet (fail)
    try go_wp2
    go_roundw;case rel=>exact⟨k+1,⟨by omega,by go_num⟩,HN',HBL⟩
    case measure=>simp[intOf];omega
  ·
   have HR:=qA (show(-1:Int)=r by rw[<-H.out,Jc (fun j hj=>HN.out j (by rw[U4]at hj;omega))];rfl);go_wp2;go_ret;exact⟨qR HR.out,HBL.out⟩
theorem Dz (v:Value) (cs:List CallD) (stops e:Int) (H:Hid (yU stops 0 172800 cs=e)) (B:Nat) (w:World) (hv:CallsIn B w v cs) (hB:B<=w.heap.size):
  Calls Tryz.prog 227 #[v, .int .i64 stops] w fun q w'=>q= .returned (.int .i64 e)/\Bl w w':=by
 obtain⟨al,capl,rfl,ll1,ll2⟩:=hv.val;by_cases hbad:cs.length<2∨32<cs.length
 ·
  have HF:=qA (show(5:Int)=e by rw[<-H.out];unfold yU;rw[U6 hbad]);by_cases h:cs.length<2
  ·
   go_enter Tryz.func227,Tryz.ntmps227
   go_wp2;go_ret;exact⟨qR HF.out,qB _⟩
  ·
   have h':32<cs.length:=by omega
   go_enter Tryz.func227,Tryz.ntmps227
   go_wp2;go_ret;exact⟨qR HF.out,qB _⟩
 have HL:=qA hv;have n1:2<=cs.length:=by omega
 have n2:cs.length<=32:=by omega
 have HS:=qA (show QB stops 0 172800 (Ms.jh cs 0) (cs.drop 0)=e by rw[<-H.out];unfold yU;rw[U5 hbad];rfl);clear hv H hbad;go_enter Tryz.func227,Tryz.ntmps227
 go_wp2;go_loopw [5] (fun i wr=> ∃ k:Nat,(k<=cs.length/\i= .int .i64 k)/\Hid (QB stops 0 172800 (Ms.jh cs k) (cs.drop k)=e)/\Hid (Bl w wr)) (fun i _=>cs.length-(intOf i).toNat)
 case atStart=>exact⟨0,⟨qAD _,rfl⟩,HS,qB _⟩
 case round=>
  obtain⟨k,⟨hk,rfl⟩,HK,HBL⟩:=hrel;by_cases hlt:k<cs.length
  rotate_left
  ·
   have HF:=qA (show(0:Int)=e by rw[<-HK.out,List.drop_eq_nil_of_le (by omega)];rfl);go_wp2;go_ret;exact⟨qR HF.out,HBL.out⟩
  obtain⟨b,o,x,rfl,hbs,hx,hc⟩:=HL.out.get hlt HBL.out hB;have g0:wr.cell? ⟨b,o+k*5,none⟩=some (.int .i64 x.stop):=hc 0 _ rfl;have g1:wr.cell? ⟨b,o+k*5+1,none⟩=some (.int .i64 x.arrive):=hc 1 _ rfl;have g2:wr.cell? ⟨b,o+k*5+2,none⟩=some (.int .i64 x.depart):=hc 2 _ rfl;have hkI:(k:Int)<(cs.length:Int):=by omega
  have HX:=qA hx;have HBAD:Hid (∀ c:Int,jT stops 0 172800 (Ms.jh cs k) x=c->c≠0->c=e):=fun c hc h0=>by rw[<-HK.out,Ms.XL hx (by rw[hc];exact h0),hc]
  have HGOOD:Hid (jT stops 0 172800 (Ms.jh cs k) x=0->QB stops 0 172800 (Ms.jh cs (k+1)) (cs.drop (k+1))=e):=fun h=>by rw[<-Ms.XK hx h];exact HK.out
  clear hx hc;by_cases h1:x.stop<0∨stops<=x.stop
  ·
   have HF:=qA (HBAD.out 9 (Ms.Ap h1) (by decide));go_wp2;all_goals first
    |(exfalso;omega)
    |(go_ret;exact⟨qR HF.out,HBL.out⟩)
  have s1: ¬ x.stop<0:=fun h=>h1 (.inl h)
  have s2: ¬ stops<=x.stop:=fun h=>h1 (.inr h)
  by_cases hz:0<k
  ·
   obtain⟨j,hj⟩: ∃ j,k=j+1:=⟨k-1,by omega⟩;have hjl:j<cs.length:=by omega
   obtain⟨p,hp⟩: ∃ p,cs[j]? =some p:=⟨_,U2 hjl⟩;have k0:wr.cell? ⟨b,o+j*5,none⟩=some (.int .i64 p.stop):=HL.out.cellsAt hp HBL.out hB 0 _ rfl;have k2:wr.cell? ⟨b,o+j*5+2,none⟩=some (.int .i64 p.depart):=HL.out.cellsAt hp HBL.out hB 2 _ rfl;have jI:((k:Int)-1)=(j:Int):=by omega
   have jL:(j:Int)<(cs.length:Int):=by omega
   have jW:IntKind.i64.wrap (j:Int)=(j:Int):=IntWalk.i64_in _ (by omega);have HPV:=qA (show Ms.jh cs k=some p by rw[hj];exact Ms.KU hp);clear hp hj;by_cases h2:p.stop=x.stop
   ·
    have HF:=qA (HBAD.out 13 (by rw[HPV.out];exact Ms.mG h1 h2) (by decide));have h2':(x.stop==p.stop)=true:=by rw[beq_iff_eq];exact h2.symm
    clear h2;go_wp2_with fail;go_quiet (fail)
    go_wp2;go_ret;exact⟨qR HF.out,qM HBL.out _⟩
   have h2':(x.stop==p.stop)=false:=by rw[U0];exact fun h=>h2 h.symm
   go_wp2_with fail;go_quiet (fail)
   go_wp2_with fail;generalize hw1:wr.drewN _=w1
   have b1:Bl wr w1:=by rw[<-hw1];exact qM (qB _) _
   have B1:=qA (qF HBL.out b1);have z1:w1.cell? ⟨b,o+k*5+1,none⟩=some (.int .i64 x.arrive):=((qG b1).1 _ _ hbs).trans g1;have z2:w1.cell? ⟨b,o+k*5+2,none⟩=some (.int .i64 x.depart):=((qG b1).1 _ _ hbs).trans g2;have z3:w1.cell? ⟨b,o+j*5+2,none⟩=some (.int .i64 p.depart):=((qG b1).1 _ _ hbs).trans k2;clear hw1 b1 g0 g1 g2 k0 k2 h2';by_cases hT:x.arrive<0∨x.depart<x.arrive∨172800<x.depart∨x.arrive<p.depart
   ·
    have HF:=qA (HBAD.out 10 (by rw[HPV.out];exact Ms.JD h1 h2 hT) (by decide));clear h1 h2;by_cases t1:x.arrive<0
    ·
     clear hT;go_quiet (fail)
     go_wp2;go_ret;exact⟨qR HF.out,qM B1.out _⟩
    by_cases t2:x.depart<x.arrive
    ·
     clear hT;go_quiet (fail)
     go_wp2;go_ret;exact⟨qR HF.out,qM B1.out _⟩
    by_cases t3:172800<x.depart
    ·
     clear hT;go_quiet (fail)
     go_wp2;go_ret;exact⟨qR HF.out,qM B1.out _⟩
    have t4:x.arrive<p.depart:=by omega
    clear hT;go_quiet (fail)
    go_wp2;go_ret;exact⟨qR HF.out,qM B1.out _⟩
   have HN:=qA (HGOOD.out (by rw[HPV.out];exact Ms.Am h1 h2 hT));have t1: ¬ x.arrive<0:=fun h=>hT (.inl h)
   have t2: ¬ x.depart<x.arrive:=fun h=>hT (.inr (.inl h))
   have t3: ¬ 172800<x.depart:=fun h=>hT (.inr (.inr (.inl h)))
   have t4: ¬ x.arrive<p.depart:=fun h=>hT (.inr (.inr (.inr h)))
   clear hT h1 h2;go_quiet (fail)
   go_wp2;go_roundw;case rel=>exact⟨k+1,⟨by omega,by go_num⟩,HN,qM B1.out _⟩
   case measure=>simp[intOf];omega
  ·
   have HPV:=qA (show Ms.jh cs k=none by unfold Ms.jh;rw[U6 (by omega)]);go_wp2_with fail;go_quiet (fail)
   go_wp2_with fail;generalize hw1:wr.drewN _=w1
   have b1:Bl wr w1:=by rw[<-hw1];exact qM (qB _) _
   have B1:=qA (qF HBL.out b1);have z1:w1.cell? ⟨b,o+k*5+1,none⟩=some (.int .i64 x.arrive):=((qG b1).1 _ _ hbs).trans g1;have z2:w1.cell? ⟨b,o+k*5+2,none⟩=some (.int .i64 x.depart):=((qG b1).1 _ _ hbs).trans g2;clear hw1 b1 g0 g1 g2;by_cases hT:x.arrive<0∨x.depart<x.arrive∨172800<x.depart
   ·
    have HF:=qA (HBAD.out 10 (by rw[HPV.out];exact Ms.Ku h1 hT) (by decide));clear h1;by_cases t1:x.arrive<0
    ·
     clear hT;go_quiet (fail)
     go_wp2;go_ret;exact⟨qR HF.out,qM B1.out _⟩
    by_cases t2:x.depart<x.arrive
    ·
     clear hT;go_quiet (fail)
     go_wp2;go_ret;exact⟨qR HF.out,qM B1.out _⟩
    have t3:172800<x.depart:=by omega
    clear hT;go_quiet (fail)
    go_wp2;go_ret;exact⟨qR HF.out,qM B1.out _⟩
   have HN:=qA (HGOOD.out (by rw[HPV.out];exact Ms.Ak h1 hT));have t1: ¬ x.arrive<0:=fun h=>hT (.inl h)
   have t2: ¬ x.depart<x.arrive:=fun h=>hT (.inr (.inl h))
   have t3: ¬ 172800<x.depart:=fun h=>hT (.inr (.inr h))
   clear hT h1;go_quiet (fail)
   go_wp2;go_roundw;case rel=>exact⟨k+1,⟨by omega,by go_num⟩,HN,qM B1.out _⟩
   case measure=>simp[intOf];omega
theorem NC (vl:Value) (ts:List TripD) (k:Nat) (x:TripD) (hx:ts[k]? =some x) (stops routes cals e:Int) (H:Hid (zG stops routes cals ((ts.take k).map xOf) (xOf x)=e)) (hsz:x.id.data.toList.length<=9223372036854775807) (B:Nat) (w:World) (hl:vP B w vl ts) (hB:B<=w.heap.size):
  Calls Tryz.prog 169 #[vl, .int .i64 k, .int .i64 stops, .int .i64 routes, .int .i64 cals] w fun q w'=>q= .returned (.int .i64 e)/\Bl w w':=by
 obtain⟨al,capl,rfl,ll1,ll2⟩:=hl.sl.val;have HL:=qA hl;have hlt:k<ts.length:=(Uw.1 hx).1;obtain⟨bl',ol,x',rfl,hbs,hx',hc⟩:=hl.sl.get hlt (qB w) hB;obtain rfl:x=x':=by rw[hx]at hx';exact qAB hx'
 obtain⟨ax,cx,hvx,-,-⟩:=(hl.ok x (Uz hx)).calls.val;obtain⟨xi,hxi⟩: ∃ xi,x.id.data.toList=xi:=⟨_,rfl⟩;have hse:Value.string x.id=qP xi:=by rw[<-hxi]
 have d0:w.cell? ⟨bl',ol+k*5,none⟩=some (qP xi):=by rw[<-hse];exact hc 0 _ rfl
 have d1:w.cell? ⟨bl',ol+k*5+1,none⟩=some (.int .i64 x.rt):=hc 1 _ rfl;have d2:w.cell? ⟨bl',ol+k*5+2,none⟩=some (.int .i64 x.cal):=hc 2 _ rfl;have d3:w.cell? ⟨bl',ol+k*5+3,none⟩=some (.bool x.step):=hc 3 _ rfl;have d4:w.cell? ⟨bl',ol+k*5+4,none⟩=some (.slice ax x.calls.length cx):=by rw[<-hvx];exact hc 4 _ rfl
 have hkI:(k:Int)<(ts.length:Int):=by omega
 have hk0:(0:Int)<=(k:Int):=by omega
 have hkl:(k:Int)<=(ts.length:Int):=by omega
 have hkc:(k:Int)<=(capl:Int):=by omega
 have HXI:=qA hxi;rw[hxi]at hsz;have HCI:=qA (show CallsIn B w (.slice ax x.calls.length cx) x.calls by rw[<-hvx];exact(hl.ok x (Uz hx)).calls);have HE:Hid (∀ c:Int,zG stops routes cals ((ts.take k).map xOf) (xOf x)=c->c=e):=fun c h=>h.symm.trans H.out
 obtain⟨p,hp⟩: ∃ p,jU xi=p:=⟨_,rfl⟩;have HP:=qA hp;have hid:=fun w=>oQ ⟨xi.toArray⟩ (by show xi.toArray.size<=_;rw[List.size_toArray];unfold maxLen;omega) p HP w
 obtain⟨r,hr⟩: ∃ r,bI (qm xi ((ts.take k).map fun x=>x.id.data.toList))=r:=⟨_,rfl⟩;have HR:=qA hr;have HQ:Hid ((0<=r/\(((ts.take k).map xOf).any fun y=>y.id==(xOf x).id)=true)∨(r<0/\(((ts.take k).map xOf).any fun y=>y.id==(xOf x).id)=false)):=by
  show _∨_
  rw[List.any_map,<-hr];have hx2:(xOf x).id=xi:=hxi;rw[hx2];rcases Fb (fun x:TripD=>x.id.data.toList) xi (ts.take k)with⟨j,h1,h2⟩|⟨h1,h2⟩
  · exact .inl ⟨by rw[h1];exact Int.natCast_nonneg j,h2⟩
  · exact .inr ⟨by rw[h1];decide,h2⟩
 obtain⟨e9,h9⟩: ∃ e,yU stops 0 172800 x.calls=e:=⟨_,rfl⟩;have H9:=qA h9;obtain⟨w2,hw2⟩: ∃ w2,w.alloc (.cells #[qP xi, .int .i64 x.rt, .int .i64 x.cal, .bool x.step, .slice ax x.calls.length cx] 56)=w2:=⟨_,rfl⟩;have b2:Bl w w2:=by rw[<-hw2];exact qE (qB _) _
 have t0:w2.cell? ⟨w.heap.size,0,none⟩=some (qP xi):=by rw[<-hw2,Uy (hn:=rfl)];rfl
 have t1:w2.cell? ⟨w.heap.size,1,none⟩=some (.int .i64 x.rt):=by rw[<-hw2,Uy (hn:=rfl)];rfl
 have t2:w2.cell? ⟨w.heap.size,2,none⟩=some (.int .i64 x.cal):=by rw[<-hw2,Uy (hn:=rfl)];rfl
 have t4:w2.cell? ⟨w.heap.size,4,none⟩=some (.slice ax x.calls.length cx):=by rw[<-hw2,Uy (hn:=rfl)];rfl
 have s2:w.heap.size<w2.heap.size:=by rw[<-hw2];simp
 have B2:=qA b2;clear hx hx' hc hl hse hvx hxi hp hr h9 b2 H;cases p with
 |false=>
  have HF:=qA (HE.out 12 (by unfold zG;rw[show(xOf x).id=xi from HXI.out,U6 HP.out]));go_enter Tryz.func169,Tryz.ntmps169
  go_wp2_with (go_at_call 167;refine(hid _).mono ?_;rintro e w3 ⟨rfl,rfl⟩)
  go_ret;exact⟨qR HF.out,B2.out⟩
 |true=>
 have HP1:=qA (show ¬ jU (xOf x).id=false by rw[show(xOf x).id=xi from HXI.out,HP.out];decide);go_enter Tryz.func169,Tryz.ntmps169
 go_wp2_with (go_at_call 167;refine(hid _).mono ?_;rintro e w3 ⟨rfl,rfl⟩)
 clear hw2 d0 d1 d2 d3 d4 hid;go_region_held3 (fun w'=>w'.cell? ⟨w.heap.size,0,none⟩=some (qP xi)) (first|exact t0|exact((qG (qF (qH (qB _)) b4)).1 _ _ (by omega)).trans t0) (first|(go_at_call 226;(with_reducible refine(IG _ (ts.take k) xi r HR B _ ((HL.out.sl.take (k:=k) (by omega)).out (qF B2.out (qH (qB _))) hB) (by have:=B2.out.size;simp;omega)).mono ?_);rintro e w4 ⟨rfl,b4⟩))
 all_goals
  have b24:Bl w2 w4:=qF (qH (qB _)) b4;have B4:=qA (qF B2.out b24);have u1:w4.cell? ⟨w.heap.size,1,none⟩=some (.int .i64 x.rt):=((qG b24).1 _ _ (by omega)).trans t1;have u2:w4.cell? ⟨w.heap.size,2,none⟩=some (.int .i64 x.cal):=((qG b24).1 _ _ (by omega)).trans t2;have u4:w4.cell? ⟨w.heap.size,4,none⟩=some (.slice ax x.calls.length cx):=((qG b24).1 _ _ (by omega)).trans t4;have hB4:B<=w4.heap.size:=Ux hB B4.out.size;clear b24 b4 t0 t1 t2 t4 s2;by_cases hd:0<=r
  ·
   have HF:=qA (HE.out 6 (by unfold zG;rw[U5 HP1.out,U6 (by rcases HQ.out with⟨-,h⟩|⟨h,-⟩;exact h;omega)]));go_wp2;go_ret;exact⟨qR HF.out,B4.out⟩
  have HQ1:=qA (show ¬ (((ts.take k).map xOf).any fun y=>y.id==(xOf x).id)=true by rcases HQ.out with⟨h,-⟩|⟨-,h⟩;omega;rw[h];decide);by_cases hout:(x.rt<0∨routes<=x.rt)∨(x.cal<0∨cals<=x.cal)
  ·
   have HF:=qA (HE.out 9 (by unfold zG;rw[U5 HP1.out,U5 HQ1.out,U6 (by show(qK x.rt 0 (routes-1)||qK x.cal 0 (cals-1))=true;unfold qK;simp;omega)]));go_wp2;all_goals first
    |(exfalso;omega)
    |(go_ret;exact⟨qR HF.out,B4.out⟩)
  have HF:=qA (HE.out e9 (by unfold zG;rw[U5 HP1.out,U5 HQ1.out,U5 (by show ¬ (qK x.rt 0 (routes-1)||qK x.cal 0 (cals-1))=true;unfold qK;simp;omega)];exact H9.out));have n1:0<=x.rt:=by omega
  have n2:x.rt<routes:=by omega
  have n3:0<=x.cal:=by omega
  have n4:x.cal<cals:=by omega
  have hcc:=Dz (.slice ax x.calls.length cx) x.calls stops e9 H9 B w4 (HCI.out.out B4.out hB) hB4;clear hout;go_wp2_with (go_at_call 227;refine hcc.mono ?_;rintro e w5 ⟨rfl,b5⟩)
  go_ret;exact⟨qR HF.out,qF B4.out b5⟩
theorem II (vl:Value) (ts:List TripD) (stops routes cals:Int) (l:List TripX) (hts:l=ts.map xOf) (r:Int×Int) (H:Hid (qZ 256 (zG stops routes cals) l=r)) (hs:Hid (∀ x∈l,x.id.length<=9223372036854775807)) (B:Nat) (w:World) (hl:vP B w vl ts) (hB:B<=w.heap.size):
  Calls Tryz.prog 97 #[vl, .int .i64 stops, .int .i64 routes, .int .i64 cals] w fun e w'=>e= .returned (.tuple #[.int .i64 r.1, .int .i64 r.2])/\Bl w w':=by
 obtain⟨al,capl,rfl,ll1,ll2⟩:=hl.sl.val;have hlen:l.length=ts.length:=by rw[hts,U4]
 have HL:=qA hl;have HTS:=qA hts;clear hl hts;by_cases hmany:256<ts.length
 ·
  have HR:=qA (zM (err:=(zG stops routes cals)) (l:=l) (most:=256) (by omega));clear hlen;go_enter Tryz.func97,Tryz.ntmps97
  go_wp2;go_ret2;exact⟨qY HR.out H.out,qB _⟩
 have hfew:ts.length<=256:=by omega
 have HR:Hid (wU (zG stops routes cals) (l.take 0) (l.drop 0)=r):=(zf (by omega)).symm.trans H.out;have HLEN:=qA hlen;clear hmany hlen;go_enter Tryz.func97,Tryz.ntmps97
 go_wp2_with fail;go_loopw [10] (fun i wr=> ∃ k:Nat,(k<=ts.length/\i= .int .i64 k)/\Hid (wU (zG stops routes cals) (l.take k) (l.drop k)=r)/\Hid (Bl w wr)) (fun i _=>ts.length-(intOf i).toNat)
 case atStart=>exact⟨0,⟨qAD _,rfl⟩,HR,qB _⟩
 case round=>
  obtain⟨k,⟨hk,rfl⟩,HC,HBL⟩:=hrel;by_cases hlt:k<ts.length
  rotate_left
  ·
   have HE:=qA (jy (err:=(zG stops routes cals)) (show l.length<=k by rw[HLEN.out];omega));go_wp2;go_ret2;exact⟨qY HE.out HC.out,HBL.out⟩
  obtain⟨x,hx⟩: ∃ x,ts[k]? =some x:=⟨_,U2 hlt⟩;have HX:Hid (l[k]? =some (xOf x)):=by show _=_;rw[HTS.out,List.getElem?_map,hx];rfl
  obtain⟨e,he⟩: ∃ e,zG stops routes cals (l.take k) (xOf x)=e:=⟨_,rfl⟩;have HE:=qA he;have h1:=NC _ ts k x hx stops routes cals e (by show _=_;rw[List.map_take,<-HTS.out];exact he) (hs.out (xOf x) (Uz HX.out)) B wr (HL.out.bl HBL.out hB) (Ux hB HBL.out.size);clear hx he;go_wp2_with (go_at_call 169;refine h1.mono ?_;rintro e' w3 ⟨rfl,b3⟩;have B3:=qA (qF HBL.out b3);clear b3;by_cases h0:e=0;have q:(e != 0)=false:=(by rw[h0];rfl);rotate_left;have q:(e != 0)=true:=(by rw[bne_iff_ne];exact h0))
  all_goals first
   |(go_ret2;exact⟨qY (qU (err:=(zG stops routes cals)) HX.out HE.out h0) HC.out,B3.out⟩)
   |exact⟨⟨k+1,⟨by omega,by go_num⟩,(jS (err:=(zG stops routes cals)) HX.out (HE.out.trans h0)).symm.trans HC.out,B3.out⟩,by simp[intOf];omega⟩
end Go.Proofs.YtakedkcjplfgeaaGreatDoor
