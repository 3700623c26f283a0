/- Contracts, proved. Conditions: theirs. -/
import Derived.Test.YtakedkcjplfgeaaGreatDoorMRkX
set_option maxRecDepth 1000000
set_option maxHeartbeats 32000000
open Go.Proofs.Tryz
namespace Go.Proofs.YtakedkcjplfgeaaGreatDoor
open Go.RowKit
open Frq Thr Tt
theorem Xf: ∀ {ids:List Ψ} {x:Ψ},qm x ids=none-> ∀ j:Nat,ids[j]? ≠some x
 |[],_,_,j=>by simp
 |y::r,x,h,j=>by
  rw[Jb]at h;split at h
  · cases h
  rename_i hne;cases j with
  |zero=>simpa using hne
  |succ j=>
   rw[List.getElem?_cons_succ];refine Xf ?_ j;cases hq:qm x r with
   |none=>rfl
   |some i=>rw[hq]at h;cases h
theorem BR {ids:List Ψ} {x y:Ψ} {k:Nat} (h: ∀ j,j<k->ids[j]? ≠some x) (hy:ids[k]? =some y) (hn:(y==x)=false): ∀ j,j<k+1->ids[j]? ≠some x:=λj hj=>by
 rcases Nat.lt_succ_iff_lt_or_eq.1 hj with h'|rfl
 · exact h j h'
 rw[hy];intro e;rw[qAB e]at hn;simp at hn
theorem Wh {α:Type} (f:α->Ψ) {l:List α} {k:Nat} {x:α} (hx:l[k]? =some x): ∃ j:Nat,qm (f x) (l.map f)=some j/\j<=k/\((l.take k).any (λy=>f y==f x)=decide (j<k)):=by
 have hk:k<l.length:=(Uw.1 hx).1;cases h:qm (f x) ((l.take k).map f)with
 |some j=>
  have hj:=yw h;rw[List.getElem?_map]at hj;obtain⟨y,hy,hf⟩:=Option.map_eq_some_iff.1 hj;have hjk:j<k:=by
   have:=(Uw.1 hy).1;rw[List.length_take]at this;omega
  refine⟨j, ?_,ω, ?_⟩
  ·
   have:=ZF (f x) ((l.take k).map f) ((l.drop k).map f);rw[<-List.map_append,List.take_append_drop,h]at this;exact this
  rw[decide_eq_true hjk];exact Zb hy (by rw[hf];simp)
 |none=>
  refine⟨k, ?_,ω, ?_⟩
  ·
   have:=ZF (f x) ((l.take k).map f) ((l.drop k).map f);rw[<-List.map_append,List.take_append_drop,h,List.drop_eq_getElem_cons hk,List.map_cons,Jb]at this;rw[(Uw.1 hx).2,U6 rfl]at this;rw[this];simp
   omega
  rw[decide_eq_false ω,Bool.eq_false_iff];intro hc;obtain⟨y,hy,he⟩:=List.any_eq_true.1 hc;obtain⟨j,hj⟩:=List.getElem?_of_mem hy;exact Xf h j (by rw[List.getElem?_map,hj];exact congrArg some (beq_iff_eq.1 he))
theorem Hw (s:Φ) (hs:s.size<=maxLen) (b:Bool) (H:Hid (jU s.data.toList=b)) (w:World):
  Calls prog 163 #[s] w λe w'=>e=.returned (b:Z)/\w=w':=by
 unfold maxLen at hs;have hn:=yB s;by_cases hlen: ¬ (1<=s.size/\s.size<=32)
 ·
  have HF:=qA (show b=false by
   rw[<-H.o];unfold jU;rw[hn,Bool.and_eq_false_iff];right;rw[Bool.and_eq_false_iff,decide_eq_false_iff_not,decide_eq_false_iff_not];omega)
  rcases Nat.lt_or_ge s.size 1 with h|h
  ·
   go_enter func163,ntmps163
   go_wp2;go_ret;exact⟨qO HF.o.symm,rfl⟩
  have h2:32<s.size:=ω
  go_enter func163,ntmps163
  go_wp2;go_ret;exact⟨qO HF.o.symm,rfl⟩
 have hl1:1<=s.size:=ω
 have hl2:s.size<=32:=ω
 go_enter func163,ntmps163
 go_wp2;go_loop [3] (λi=> ∃ k:Nat,k<=s.size/\i=k/\Hid (∀ j (h:j<s.size),j<k->wW (s[j]'h)=true)) (λi=>s.size-(intOf i).toNat)
 case atStart=>exact⟨0,qAD _,rfl,λj h hj=>absurd hj ω⟩
 obtain⟨k,hk,rfl,HK⟩:=hrel;by_cases hlt:k<s.size
 ·
  rcases Ms.Qy (s[k]'hlt)with⟨h1,hc⟩|⟨h1,hc⟩
  ·
   have HN:=qA (show ∀ j (h:j<s.size),j<k+1->wW (s[j]'h)=true from λj h hj=>by
    by_cases e:j=k
    · subst e;exact h1
    exact HK.o j h ω)
   clear h1;rcases hc with h|h|h|h|h|h
   all_goals
    go_wp2;go_round;case rel=>exact⟨k+1,ω,by go_num,HN⟩
    simp[intOf];omega
  have HF:=qA (show b=false by rw[<-H.o];unfold jU;rw[Ms.WW hlt h1];rfl);clear h1;have q1:(((s[k]'hlt).toNat:Int)==45)=false:=π
  have q2:(((s[k]'hlt).toNat:Int)==95)=false:=π
  have q3:(((s[k]'hlt).toNat:Int)==46)=false:=π
  rcases hc with h|h|h|h|h|h
  all_goals
   go_wp2;all_goals(try(rename_i hx;exfalso;simp at hx;omega))
   go_ret;exact⟨qO HF.o.symm,rfl⟩
 have HF:=qA (show b=true by
  rw[<-H.o];unfold jU;rw[Ms.Yp (λj h=>HK.o j h ω),hn,decide_eq_true hl1,decide_eq_true hl2];rfl)
 go_wp2;go_ret;exact⟨qO HF.o.symm,rfl⟩
theorem oQ (s:Φ) (hs:s.size<=maxLen) (b:Bool) (H:Hid (jU s.data.toList=b)) (w:World):
  Calls prog 167 #[s] w λe w'=>e=.returned (b:Z)/\w=w':=by
 unfold maxLen at hs;have hn:=yB s;by_cases hlen: ¬ (1<=s.size/\s.size<=32)
 ·
  have HF:=qA (show b=false by
   rw[<-H.o];unfold jU;rw[hn,Bool.and_eq_false_iff];right;rw[Bool.and_eq_false_iff,decide_eq_false_iff_not,decide_eq_false_iff_not];omega)
  rcases Nat.lt_or_ge s.size 1 with h|h
  ·
   go_enter func167,ntmps167
   have h0:s.size=0:=ω
   go_wp2;go_ret;exact⟨qO HF.o.symm,rfl⟩
  have h2:32<s.size:=ω
  have h0:((s.size:Int)==0)=false:=π
  go_enter func167,ntmps167
  go_wp2;go_ret;exact⟨qO HF.o.symm,rfl⟩
 have hl1:1<=s.size:=ω
 have hl2:s.size<=32:=ω
 have h0:((s.size:Int)==0)=false:=π
 go_enter func167,ntmps167
 go_wp2;go_loop [3] (λi=> ∃ k:Nat,k<=s.size/\i=k/\Hid (∀ j (h:j<s.size),j<k->wW (s[j]'h)=true)) (λi=>s.size-(intOf i).toNat)
 case atStart=>exact⟨0,qAD _,rfl,λj h hj=>absurd hj ω⟩
 obtain⟨k,hk,rfl,HK⟩:=hrel;by_cases hlt:k<s.size
 ·
  rcases Ms.Qy (s[k]'hlt)with⟨h1,hc⟩|⟨h1,hc⟩
  ·
   have HN:=qA (show ∀ j (h:j<s.size),j<k+1->wW (s[j]'h)=true from λj h hj=>by
    by_cases e:j=k
    · subst e;exact h1
    exact HK.o j h ω)
   clear h1;rcases hc with h|h|h|h|h|h
   all_goals
    go_wp2;go_round;case rel=>exact⟨k+1,ω,by go_num,HN⟩
    simp[intOf];omega
  have HF:=qA (show b=false by rw[<-H.o];unfold jU;rw[Ms.WW hlt h1];rfl);clear h1;have q1:(((s[k]'hlt).toNat:Int)==45)=false:=π
  have q2:(((s[k]'hlt).toNat:Int)==95)=false:=π
  have q3:(((s[k]'hlt).toNat:Int)==46)=false:=π
  rcases hc with h|h|h|h|h|h
  all_goals
   go_wp2;all_goals(try(rename_i hx;exfalso;simp at hx;omega))
   go_ret;exact⟨qO HF.o.symm,rfl⟩
 have HF:=qA (show b=true by
  rw[<-H.o];unfold jU;rw[Ms.Yp (λj h=>HK.o j h ω),hn,decide_eq_true hl1,decide_eq_true hl2];rfl)
 go_wp2;go_ret;exact⟨qO HF.o.symm,rfl⟩
theorem MZ (vl:Value) (l:List ZH) (id:Ψ) (r:Int) (H:Hid (bI (qm id (l.map (·.id)))=r)) (B:Nat) (w:World) (hl:jA jY 4 B w vl l) (hB:B<=w.heap.size):
  Calls prog 164 #[vl,qP id] w λe w'=>e=.returned (r:Z)/\Bl w w':=by
 obtain⟨al,capl,rfl,ll1,ll2⟩:=hl.val;have HL:=qA hl;clear hl;go_enter func164,ntmps164
 go_wp2_with fail;go_loopw [5] (λi wr=> ∃ k:Nat,(k<=l.length/\i=k)/\Hid (∀ j,j<k->(l.map (·.id))[j]? ≠some id)/\Hid (Bl w wr)) (λi _=>l.length-(intOf i).toNat)
 case atStart=>exact⟨0,⟨qAD _,rfl⟩,λj hj=>absurd hj (Nat.not_lt_zero j),qB _⟩
 obtain⟨k,⟨hk,rfl⟩,HN,HBL⟩:=hrel;by_cases hlt:k<l.length
 ·
  obtain⟨bl',ol,x,rfl,hbs,hx,hc⟩:=HL.o.get hlt HBL.o hB;obtain⟨xi,hxi⟩:=ε ((·.id) x);have d0:wr.cell? (bl',ol+k*4)=some (qP xi):=by rw[<-hxi];exact hc 0 _ rfl
  have hkI:(k:Int)<(l.length:Int):=ω
  have HX:=qA (show(l.map (·.id))[k]? =some xi by rw[List.getElem?_map,hx,<-hxi];rfl);clear hx hc hxi;cases hq:xi==id with
  |true=>
   have HR:=qA (show(k:Int)=r by rw[<-H.o,yE HN.o (HX.o.trans (congrArg some (beq_iff_eq.1 hq)))];rfl);go_wp2_with fail;try go_quiet (fail)
   try go_wp2
   go_ret;exact⟨qR HR.o,HBL.o⟩
  |false=>
   have HN':=qA (BR HN.o HX.o hq);go_wp2_with fail;try go_quiet (fail)
   try go_wp2
   go_roundw;case rel=>exact⟨k+1,⟨ω,by go_num⟩,HN',HBL⟩
   simp[intOf];omega
 have HR:=qA (show(-1:Int)=r by rw[<-H.o,Jc (λj hj=>HN.o j (by rw[U4]at hj;omega))];rfl);go_wp2;go_ret;exact⟨qR HR.o,HBL.o⟩
theorem jA.cellsAt {α:Type} {cells:α->List Value} {sz B:Nat} {w:World} {xs:List α} {b o n cap:Nat} (h:jA cells sz B w ((b,o,n,cap):Z) xs) {k:Nat} {x:α} (hx:xs[k]? =some x) {w':World} (hb:Bl w w') (hB:B<=w.heap.size) (j:Nat) (u:Value) (hu:(cells x)[j]? =some u):w'.cell? (b,o+k*sz+j)=some u:=by
 obtain⟨b',o',y,ha,-,hy,hc⟩:=h.get (Uw.1 hx).1 hb hB;simp only[qAA,Addr.mk.injEq]at ha;obtain⟨rfl,rfl,-⟩:=ha;rw[hx]at hy;obtain rfl:=qAB hy;exact hc j u hu
theorem Jz {α:Type} {p:α->Bool} {l:List α} {j:Nat} {y:α} (hy:l[j]? =some y) (h:(l.take j).any p=false) (hp:p y=false):(l.take (j+1)).any p=false:=by
 rw[ql hy,List.any_append,h];simp[hp]
theorem XF {α:Type} {p:α->Bool} {l:List α} {j k:Nat} {y:α} (hy:l[j]? =some y) (hj:j<k) (hp:p y=true):(l.take k).any p=true:=
 Zb (l:=l.take k) (k:=j) (by rw[List.getElem?_take_of_lt hj];exact hy) hp
theorem IE (vl:Value) (l:List ZH) (r:Int×Int) (H:Hid (qZ 64 zI l=r)) (hs:Hid (∀ x∈l,x.id.length<=9223372036854775807)) (B:Nat) (w:World) (hl:jA jY 4 B w vl l) (hB:B<=w.heap.size):
  Calls prog 93 #[vl] w λe w'=>e=.returned (.tuple #[r.1,r.2])/\Bl w w':=by
 obtain⟨al,capl,rfl,ll1,ll2⟩:=hl.val;have HL:=qA hl;clear hl;by_cases hmany:64<l.length
 ·
  have HR:=qA (zM (err:=zI) hmany);go_enter func93,ntmps93
  go_wp2;go_ret2;exact⟨qY HR.o H.o,qB _⟩
 have hfew:l.length<=64:=ω
 have HR:Hid (wU zI (l.take 0) (l.drop 0)=r):=(zf hfew).symm.trans H.o;clear hmany;go_enter func93,ntmps93
 go_wp2_with fail;go_loopw [4] (λi wr=> ∃ k:Nat,(k<=l.length/\i=k)/\Hid (wU zI (l.take k) (l.drop k)=r)/\Hid (Bl w wr)) (λi _=>l.length-(intOf i).toNat)
 case atStart=>exact⟨0,⟨qAD _,rfl⟩,HR,qB _⟩
 obtain⟨k,⟨hk,rfl⟩,HC,HBL⟩:=hrel;by_cases hlt:k<l.length
 rotate_left
 ·
  have HE:=qA (jy (err:=zI) (show l.length<=k by omega));go_wp2;go_ret2;exact⟨qY HE.o HC.o,HBL.o⟩
 obtain⟨bl',ol,x,rfl,hbs,hx,hc⟩:=HL.o.get hlt HBL.o hB;have d0:wr.cell? (bl',ol+k*4)=some (qP x.id):=hc 0 _ rfl;have d1:wr.cell? (bl',ol+k*4+1)=some (x.zone:Z):=hc 1 _ rfl;have d3:wr.cell? (bl',ol+k*4+3)=some (x.change:Z):=hc 3 _ rfl;have hkI:(k:Int)<(l.length:Int):=ω
 have HX:=qA hx;have hsz:=hs.o x (Uz hx);obtain⟨j,hj,hjk,hany⟩:=Wh (·.id) hx;have HA:=qA hany;have hf:=MZ ((bl',ol,l.length,capl):Z) l x.id j (by show bI _=_;rw[hj];rfl) B wr (HL.o.o HBL.o hB) (Ux hB HBL.o.size);obtain⟨p,hp⟩:=ε (jU x.id);have HP:=qA hp;have hid:=Hw ⟨x.id.toArray⟩ (by show x.id.toArray.size<=_;rw[List.size_toArray];unfold maxLen;omega) p HP wr;clear hp hx hc hj hany;cases p with
 |false=>
  have HE:=qA (qU (err:=zI) HX.o (show zI (l.take k) x=12 by unfold zI;rw[U6 HP.o]) δ);go_wp2_with (go_at_call 163;refine hid.mono ?_;rintro e w3 ⟨rfl,rfl⟩)
  go_ret2;exact⟨qY HE.o HC.o,HBL.o⟩
 |true=>
  have HP1:=qA (show ¬ jU x.id=false by rw[HP.o];decide);by_cases hd:(j:Int)<k
  ·
   have HE:=qA (qU (err:=zI) HX.o (show zI (l.take k) x=6 by unfold zI;rw[U5 HP1.o,U6 (HA.o.trans (decide_eq_true ω))]) δ);go_wp2_with (first|(go_at_call 163;refine hid.mono ?_;rintro e w3 ⟨rfl,rfl⟩)|(go_at_call 164;refine hf.mono ?_;rintro e w3 ⟨rfl,b3⟩))
   go_ret2;exact⟨qY HE.o HC.o,qF HBL.o b3⟩
  have HQ1:=qA (show ¬ ((l.take k).any λy=>y.id==x.id)=true by rw[HA.o,decide_eq_false ω];decide);go_wp2_with (first|(go_at_call 163;refine hid.mono ?_;rintro e w3 ⟨rfl,rfl⟩)|(go_at_call 164;refine hf.mono ?_;rintro e w3 ⟨rfl,b3⟩;have B3:=qA (qF HBL.o b3);have e1:w3.cell? (bl',ol+k*4+1)=some (x.zone:Z):=((qG b3).1 _ _ hbs).trans d1;have e3:w3.cell? (bl',ol+k*4+3)=some (x.change:Z):=((qG b3).1 _ _ hbs).trans d3;clear b3 d1 d3))
  all_goals first
   |
    go_ret2;have HE:=qU (err:=zI) HX.o (show zI (l.take k) x=2 by unfold zI;rw[U5 HP1.o,U5 HQ1.o,U6 (by unfold qK;simp;omega)]) δ;exact⟨qY HE HC.o,B3.o⟩
   |have HG:=jS (err:=zI) HX.o (show zI (l.take k) x=0 by unfold zI;rw[U5 HP1.o,U5 HQ1.o,U5 (by unfold qK;simp;omega)])
    exact⟨⟨k+1,⟨ω,by go_num⟩,HG.symm.trans HC.o,B3.o⟩,by simp[intOf];omega⟩
theorem Mc (m:Int) (w:World):Calls prog 166 #[m] w λe w'=>e=.returned (.bool (!qK m 0 7))/\w=w':=by
 by_cases h0:m<0
 ·
  have hf:qK m 0 7=true:=by unfold qK;simp;omega
  rw[hf];go_enter func166,ntmps166
  go_wp2;go_ret;first|exact⟨rfl,rfl⟩|exact⟨qO τ,rfl⟩
 by_cases h7:7<m
 ·
  have hf:qK m 0 7=true:=by unfold qK;simp;omega
  rw[hf];go_enter func166,ntmps166
  go_wp2;all_goals first
   |(exfalso;omega)
   |(go_ret;first|exact⟨rfl,rfl⟩|exact⟨qO τ,rfl⟩)
 have hf:qK m 0 7=false:=by unfold qK;simp;omega
 rw[hf];go_enter func166,ntmps166
 go_wp2;all_goals first
  |(exfalso;omega)
  |(go_ret;first|exact⟨rfl,rfl⟩|exact⟨qO τ,rfl⟩)
theorem Dx (vl:Value) (l:List xy) (r:Int×Int) (H:Hid (qZ 64 zA l=r)) (hs:Hid (∀ x∈l,x.id.length<=9223372036854775807)) (B:Nat) (w:World) (hl:jA jP 3 B w vl l) (hB:B<=w.heap.size):
  Calls prog 94 #[vl] w λe w'=>e=.returned (.tuple #[r.1,r.2])/\Bl w w':=by
 obtain⟨al,capl,rfl,ll1,ll2⟩:=hl.val;have HL:=qA hl;clear hl;by_cases hmany:64<l.length
 ·
  have HR:=qA (zM (err:=zA) hmany);go_enter func94,ntmps94
  go_wp2;go_ret2;exact⟨qY HR.o H.o,qB _⟩
 have hfew:l.length<=64:=ω
 have HR:Hid (wU zA (l.take 0) (l.drop 0)=r):=(zf hfew).symm.trans H.o;clear hmany;go_enter func94,ntmps94
 go_wp2_with fail;go_loopw [4] (λi wr=> ∃ k:Nat,(k<=l.length/\i=k)/\Hid (wU zA (l.take k) (l.drop k)=r)/\Hid (Bl w wr)) (λi _=>l.length-(intOf i).toNat)
 case atStart=>exact⟨0,⟨qAD _,rfl⟩,HR,qB _⟩
 obtain⟨k,⟨hk,rfl⟩,HC,HBL⟩:=hrel;by_cases hlt:k<l.length
 rotate_left
 ·
  have HE:=qA (jy (err:=zA) (show l.length<=k by omega));go_wp2;go_ret2;exact⟨qY HE.o HC.o,HBL.o⟩
 obtain⟨bl',ol,x,rfl,hbs,hx,hc⟩:=HL.o.get hlt HBL.o hB;have d0:wr.cell? (bl',ol+k*3)=some (qP x.id):=hc 0 _ rfl;have hkI:(k:Int)<(l.length:Int):=ω
 have HX:=qA hx;have hsz:=hs.o x (Uz hx);obtain⟨p,hp⟩:=ε (jU x.id);have HP:=qA hp;have hid:=Ms.Bf ⟨x.id.toArray⟩ (by show x.id.toArray.size<=_;rw[List.size_toArray];unfold maxLen;omega) p HP wr;clear hp hx hc;cases p with
 |false=>
  have HE:=qA (qU (err:=zA) HX.o (show zA (l.take k) x=12 by unfold zA;rw[U6 HP.o]) δ);go_wp2_with (go_at_call 165;refine hid.mono ?_;rintro e w3 ⟨rfl,rfl⟩)
  go_ret2;exact⟨qY HE.o HC.o,HBL.o⟩
 |true=>
 have HP1:=qA (show ¬ jU x.id=false by rw[HP.o];decide);go_wp2_with (go_at_call 165;refine hid.mono ?_;rintro e w3 ⟨rfl,rfl⟩)
 rename World=>wo
 clear hid d0;go_loopw [5] (λi wr=> ∃ j:Nat,(j<=k/\i=j)/\Hid ((l.take j).any (λy=>y.id==x.id)=false)/\Hid (Bl w wr)) (λi _=>k-(intOf i).toNat)
 case atStart=>exact⟨0,⟨qAD _,rfl⟩,rfl,HBL⟩
 obtain⟨j,⟨hj,rfl⟩,HN,HBR⟩:=hrel;by_cases hjk:j<k
 ·
  obtain⟨y,hy⟩: ∃ y,l[j]? =some y:=⟨_,U2 ω⟩;have x0:wr.cell? (bl',ol+k*3)=some (qP x.id):=HL.o.cellsAt HX.o HBR.o hB 0 _ rfl;have y0:wr.cell? (bl',ol+j*3)=some (qP y.id):=HL.o.cellsAt hy HBR.o hB 0 _ rfl;have hjI:(j:Int)<(l.length:Int):=ω
  have hjk':(j:Int)<(k:Int):=ω
  have HY:=qA hy;clear hy;cases hq:y.id==x.id with
  |true=>
   have HE:=qA (qU (err:=zA) HX.o (show zA (l.take k) x=6 by unfold zA;rw[U5 HP1.o,U6 (XF HY.o hjk hq)]) δ);go_wp2_with fail;go_quiet (fail)
   go_wp2;go_ret2;exact⟨qY HE.o HC.o,qM HBR.o _⟩
  |false=>
   have HN':=qA (Jz HY.o HN.o hq);go_wp2_with fail;go_quiet (fail)
   go_wp2;go_roundw;case rel=>exact⟨j+1,⟨ω,by go_num⟩,HN',qM HBR.o _⟩
   simp[intOf];omega
 obtain rfl:j=k:=ω
 have HQ1:=qA (show ¬ ((l.take j).any λy=>y.id==x.id)=true by rw[HN.o];decide);have d1:wr.cell? (bl',ol+j*3+1)=some (x.mode:Z):=HL.o.cellsAt HX.o HBR.o hB 1 _ rfl;obtain⟨o,ho⟩:=ε (qK x.mode 0 7);have HO:=qA ho;have hm:=Mc x.mode wr;rw[ho]at hm;clear ho;cases o with
 |true=>
  have HE:=qA (qU (err:=zA) HX.o (show zA (l.take j) x=2 by unfold zA;rw[U5 HP1.o,U5 HQ1.o,U6 HO.o]) δ);go_wp2_with (go_at_call 166;refine hm.mono ?_;rintro e w4 ⟨rfl,rfl⟩)
  go_ret2;exact⟨qY HE.o HC.o,HBR.o⟩
 |false=>
  have HG:=qA (jS (err:=zA) HX.o (show zA (l.take j) x=0 by unfold zA;rw[U5 HP1.o,U5 HQ1.o,U5 (by rw[HO.o];decide)]));go_wp2_with (go_at_call 166;refine hm.mono ?_;rintro e w4 ⟨rfl,rfl⟩)
  exact⟨⟨j+1,⟨ω,by go_num⟩,HG.o.symm.trans HC.o,HBR.o⟩,by simp[intOf];omega⟩
theorem MV (vl:Value) (l:List Yj) (r:Int×Int) (H:Hid (qZ 64 zZ l=r)) (hs:Hid (∀ x∈l,x.id.length<=9223372036854775807)) (B:Nat) (w:World) (hl:jA kD 10 B w vl l) (hB:B<=w.heap.size):
  Calls prog 95 #[vl] w λe w'=>e=.returned (.tuple #[r.1,r.2])/\Bl w w':=by
 obtain⟨al,capl,rfl,ll1,ll2⟩:=hl.val;have HL:=qA hl;clear hl;by_cases hmany:64<l.length
 ·
  have HR:=qA (zM (err:=zZ) hmany);go_enter func95,ntmps95
  go_wp2;go_ret2;exact⟨qY HR.o H.o,qB _⟩
 have hfew:l.length<=64:=ω
 have HR:Hid (wU zZ (l.take 0) (l.drop 0)=r):=(zf hfew).symm.trans H.o;clear hmany;go_enter func95,ntmps95
 go_wp2_with fail;go_loopw [4] (λi wr=> ∃ k:Nat,(k<=l.length/\i=k)/\Hid (wU zZ (l.take k) (l.drop k)=r)/\Hid (Bl w wr)) (λi _=>l.length-(intOf i).toNat)
 case atStart=>exact⟨0,⟨qAD _,rfl⟩,HR,qB _⟩
 obtain⟨k,⟨hk,rfl⟩,HC,HBL⟩:=hrel;by_cases hlt:k<l.length
 rotate_left
 ·
  have HE:=qA (jy (err:=zZ) (show l.length<=k by omega));go_wp2;go_ret2;exact⟨qY HE.o HC.o,HBL.o⟩
 obtain⟨bl',ol,x,rfl,hbs,hx,hc⟩:=HL.o.get hlt HBL.o hB;have d0:wr.cell? (bl',ol+k*10)=some (qP x.id):=hc 0 _ rfl;have hkI:(k:Int)<(l.length:Int):=ω
 have HX:=qA hx;have hsz:=hs.o x (Uz hx);obtain⟨p,hp⟩:=ε (jU x.id);have HP:=qA hp;have hid:=oQ ⟨x.id.toArray⟩ (by show x.id.toArray.size<=_;rw[List.size_toArray];unfold maxLen;omega) p HP wr;clear hp hx hc;cases p with
 |false=>
  have HE:=qA (qU (err:=zZ) HX.o (show zZ (l.take k) x=12 by unfold zZ;rw[U6 HP.o]) δ);go_wp2_with (go_at_call 167;refine hid.mono ?_;rintro e w3 ⟨rfl,rfl⟩)
  go_ret2;exact⟨qY HE.o HC.o,HBL.o⟩
 |true=>
 have HP1:=qA (show ¬ jU x.id=false by rw[HP.o];decide);go_wp2_with (go_at_call 167;refine hid.mono ?_;rintro e w3 ⟨rfl,rfl⟩)
 rename World=>wo
 clear hid d0;go_loopw [5] (λi wr=> ∃ j:Nat,(j<=k/\i=j)/\Hid ((l.take j).any (λy=>y.id==x.id)=false)/\Hid (Bl w wr)) (λi _=>k-(intOf i).toNat)
 case atStart=>exact⟨0,⟨qAD _,rfl⟩,rfl,HBL⟩
 obtain⟨j,⟨hj,rfl⟩,HN,HBR⟩:=hrel;by_cases hjk:j<k
 ·
  obtain⟨y,hy⟩: ∃ y,l[j]? =some y:=⟨_,U2 ω⟩;have x0:wr.cell? (bl',ol+k*10)=some (qP x.id):=HL.o.cellsAt HX.o HBR.o hB 0 _ rfl;have y0:wr.cell? (bl',ol+j*10)=some (qP y.id):=HL.o.cellsAt hy HBR.o hB 0 _ rfl;have hjI:(j:Int)<(l.length:Int):=ω
  have hjk':(j:Int)<(k:Int):=ω
  have HY:=qA hy;clear hy;cases hq:y.id==x.id with
  |true=>
   have HE:=qA (qU (err:=zZ) HX.o (show zZ (l.take k) x=6 by unfold zZ;rw[U5 HP1.o,U6 (XF HY.o hjk hq)]) δ);go_wp2_with fail;go_quiet (fail)
   go_wp2;go_ret2;exact⟨qY HE.o HC.o,qM HBR.o _⟩
  |false=>
   have HN':=qA (Jz HY.o HN.o hq);go_wp2_with fail;go_quiet (fail)
   go_wp2;go_roundw;case rel=>exact⟨j+1,⟨ω,by go_num⟩,HN',qM HBR.o _⟩
   simp[intOf];omega
 obtain rfl:j=k:=ω
 have HQ1:=qA (show ¬ ((l.take j).any λy=>y.id==x.id)=true by rw[HN.o];decide);have d8:wr.cell? (bl',ol+j*10+8)=some (x.frm:Z):=HL.o.cellsAt HX.o HBR.o hB 8 _ rfl;have d9:wr.cell? (bl',ol+j*10+9)=some (x.to:Z):=HL.o.cellsAt HX.o HBR.o hB 9 _ rfl;obtain⟨o1,ho1⟩:=ε (Yv x.frm);obtain⟨o2,ho2⟩:=ε (Yv x.to);have HO1:=qA ho1;have HO2:=qA ho2;have hd1:=λw=>Da.Vq x.frm o1 (by show _=_;rw[ZC,HO1.o]) w
 have hd2:=λw=>Da.Vq x.to o2 (by show _=_;rw[ZC,HO2.o]) w
 clear ho1 ho2;go_wp2_with fail;cases o1 with
 |false=>
  have HE:=qA (qU (err:=zZ) (e:=11) HX.o (by unfold zZ;rw[U5 HP1.o,U5 HQ1.o,U6 (by rw[HO1.o];rfl)]) δ);go_quiet (first|(go_at_call 168;with_reducible exact Calls.quiet_of_same ((hd1 _).mono λ_ _ h=>⟨h.1,h.2.symm⟩))|(go_at_call 168;with_reducible exact Calls.quiet_of_same ((hd2 _).mono λ_ _ h=>⟨h.1,h.2.symm⟩)))
  go_wp2;go_ret2;exact⟨qY HE.o HC.o,qM HBR.o _⟩
 |true=>
 cases o2 with
 |false=>
  have HE:=qA (qU (err:=zZ) (e:=11) HX.o (by unfold zZ;rw[U5 HP1.o,U5 HQ1.o,U6 (by rw[HO1.o,HO2.o];rfl)]) δ);go_quiet (first|(go_at_call 168;with_reducible exact Calls.quiet_of_same ((hd1 _).mono λ_ _ h=>⟨h.1,h.2.symm⟩))|(go_at_call 168;with_reducible exact Calls.quiet_of_same ((hd2 _).mono λ_ _ h=>⟨h.1,h.2.symm⟩)))
  go_wp2;go_ret2;exact⟨qY HE.o HC.o,qM HBR.o _⟩
 |true=>
 by_cases hlf:x.to<x.frm
 ·
  have HE:=qA (qU (err:=zZ) (e:=11) HX.o (by unfold zZ;rw[U5 HP1.o,U5 HQ1.o,U6 (by rw[HO1.o,HO2.o,decide_eq_true hlf];rfl)]) δ);go_quiet (first|(go_at_call 168;with_reducible exact Calls.quiet_of_same ((hd1 _).mono λ_ _ h=>⟨h.1,h.2.symm⟩))|(go_at_call 168;with_reducible exact Calls.quiet_of_same ((hd2 _).mono λ_ _ h=>⟨h.1,h.2.symm⟩)))
  go_wp2;go_ret2;exact⟨qY HE.o HC.o,qM HBR.o _⟩
 have HG:=qA (jS (err:=zZ) HX.o (by unfold zZ;rw[U5 HP1.o,U5 HQ1.o,U5 (by rw[HO1.o,HO2.o,decide_eq_false hlf];decide)]));go_quiet (first|(go_at_call 168;with_reducible exact Calls.quiet_of_same ((hd1 _).mono λ_ _ h=>⟨h.1,h.2.symm⟩))|(go_at_call 168;with_reducible exact Calls.quiet_of_same ((hd2 _).mono λ_ _ h=>⟨h.1,h.2.symm⟩)))
 go_wp2;exact⟨⟨j+1,⟨ω,by go_num⟩,HG.o.symm.trans HC.o,qM HBR.o _⟩,by simp[intOf];omega⟩
theorem MX (vl:Value) (l:List Yk) (n:Int) (r:Int×Int) (H:Hid (qZ 256 (jd n) l=r)) (B:Nat) (w:World) (hl:jA kE 3 B w vl l) (hB:B<=w.heap.size):
  Calls prog 96 #[vl,n] w λe w'=>e=.returned (.tuple #[r.1,r.2])/\Bl w w':=by
 obtain⟨al,capl,rfl,ll1,ll2⟩:=hl.val;have HL:=qA hl;clear hl;by_cases hmany:256<l.length
 ·
  have HR:=qA (zM (err:=(jd n)) hmany);go_enter func96,ntmps96
  go_wp2;go_ret2;exact⟨qY HR.o H.o,qB _⟩
 have hfew:l.length<=256:=ω
 have HR:Hid (wU (jd n) (l.take 0) (l.drop 0)=r):=(zf hfew).symm.trans H.o;clear hmany;go_enter func96,ntmps96
 go_wp2_with fail;go_loopw [6] (λi wr=> ∃ k:Nat,(k<=l.length/\i=k)/\Hid (wU (jd n) (l.take k) (l.drop k)=r)/\Hid (Bl w wr)) (λi _=>l.length-(intOf i).toNat)
 case atStart=>exact⟨0,⟨qAD _,rfl⟩,HR,qB _⟩
 obtain⟨k,⟨hk,rfl⟩,HC,HBL⟩:=hrel;by_cases hlt:k<l.length
 rotate_left
 ·
  have HE:=qA (jy (err:=(jd n)) (show l.length<=k by omega));go_wp2;go_ret2;exact⟨qY HE.o HC.o,HBL.o⟩
 obtain⟨bl',ol,x,rfl,hbs,hx,hc⟩:=HL.o.get hlt HBL.o hB;have d0:wr.cell? (bl',ol+k*3)=some (x.cal:Z):=hc 0 _ rfl;have d1:wr.cell? (bl',ol+k*3+1)=some (x.day:Z):=hc 1 _ rfl;have hkI:(k:Int)<(l.length:Int):=ω
 have HX:=qA hx;clear hx hc;by_cases h9:x.cal<0∨n<=x.cal
 ·
  have HE:=qA (qU (err:=jd n) (e:=9) HX.o (by unfold jd;rw[U6 (by unfold qK;simp;omega)]) δ);go_wp2;all_goals first
   |(exfalso;omega)
   |(go_ret2;exact⟨qY HE.o HC.o,HBL.o⟩)
 have H9:=qA (show ¬ qK x.cal 0 (n-1)=true by unfold qK;simp;omega);have m1:0<=x.cal:=ω
 have m2:x.cal<n:=ω
 clear h9;obtain⟨o1,ho1⟩:=ε (Yv x.day);have HO1:=qA ho1;have hd1:=λw=>Da.Vq x.day o1 (by show _=_;rw[ZC,HO1.o]) w
 clear ho1;cases o1 with
 |false=>
  have HE:=qA (qU (err:=jd n) (e:=11) HX.o (by unfold jd;rw[U5 H9.o,U6 HO1.o]) δ);go_wp2_with (go_at_call 168;refine(hd1 _).mono ?_;rintro e w3 ⟨rfl,rfl⟩)
  go_ret2;exact⟨qY HE.o HC.o,HBL.o⟩
 |true=>
 have H11:=qA (show ¬ Yv x.day=false by rw[HO1.o];decide);have HE6:Hid ((l.take k).any (λy=>y.cal==x.cal&&y.day==x.day)=true->wU (jd n) (l.take k) (l.drop k)=((k:Int),6)):=λh=>qU (err:=jd n) (e:=6) HX.o (by unfold jd;rw[U5 H9.o,U5 H11.o,U6 h]) δ
 go_wp2_with (go_at_call 168;refine(hd1 _).mono ?_;rintro e w3 ⟨rfl,rfl⟩)
 clear hd1 d0 d1;rename World=>wo
 go_loopw [7] (λi wr=> ∃ j:Nat,(j<=k/\i=j)/\Hid ((l.take j).any (λy=>y.cal==x.cal&&y.day==x.day)=false)/\Hid (Bl w wr)) (λi _=>k-(intOf i).toNat)
 case atStart=>exact⟨0,⟨qAD _,rfl⟩,rfl,HBL⟩
 obtain⟨j,⟨hj,rfl⟩,HN,HBR⟩:=hrel;by_cases hjk:j<k
 ·
  obtain⟨y,hy⟩: ∃ y,l[j]? =some y:=⟨_,U2 ω⟩;have x0:wr.cell? (bl',ol+k*3)=some (x.cal:Z):=HL.o.cellsAt HX.o HBR.o hB 0 _ rfl;have x1:wr.cell? (bl',ol+k*3+1)=some (x.day:Z):=HL.o.cellsAt HX.o HBR.o hB 1 _ rfl;have y0:wr.cell? (bl',ol+j*3)=some (.int .i64 y.cal):=HL.o.cellsAt hy HBR.o hB 0 _ rfl;have y1:wr.cell? (bl',ol+j*3+1)=some (.int .i64 y.day):=HL.o.cellsAt hy HBR.o hB 1 _ rfl;have hjI:(j:Int)<(l.length:Int):=ω
  have hjk':(j:Int)<(k:Int):=ω
  have HY:=qA hy;clear hy;cases q0:y.cal==x.cal with
  |true=>
   cases q1:y.day==x.day with
   |true=>
    have HE:=qA (HE6.o (XF (p:=(λy=>y.cal==x.cal&&y.day==x.day)) HY.o hjk (by simp only[q0,q1];rfl)));go_wp2_with fail;go_quiet (fail)
    go_wp2;go_ret2;exact⟨qY HE.o HC.o,qM HBR.o _⟩
   |false=>
    have HN':=qA (Jz (p:=(λy=>y.cal==x.cal&&y.day==x.day)) HY.o HN.o (by simp only[q0,q1];rfl));go_wp2_with fail;go_quiet (fail)
    go_wp2;go_roundw;case rel=>exact⟨j+1,⟨ω,by go_num⟩,HN',qM HBR.o _⟩
    simp[intOf];omega
  |false=>
   have HN':=qA (Jz (p:=(λy=>y.cal==x.cal&&y.day==x.day)) HY.o HN.o (by simp only[q0];rfl));go_wp2_with fail;go_quiet (fail)
   go_wp2;go_roundw;case rel=>exact⟨j+1,⟨ω,by go_num⟩,HN',qM HBR.o _⟩
   simp[intOf];omega
 obtain rfl:j=k:=ω
 have HG:=qA (jS (err:=jd n) HX.o (by unfold jd;rw[U5 H9.o,U5 H11.o,U5 (by rw[HN.o];decide)]));go_wp2;exact⟨⟨j+1,⟨ω,by go_num⟩,HG.o.symm.trans HC.o,HBR.o⟩,by simp[intOf];omega⟩
theorem Fb {α:Type} (f:α->Ψ) (s:Ψ) (l:List α):(∃ j:Nat,qm s (l.map f)=some j/\(l.any λy=>f y==s)=true)∨(qm s (l.map f)=none/\(l.any λy=>f y==s)=false):=by
 cases h:qm s (l.map f)with
 |some j=>
  have hj:=yw h;rw[List.getElem?_map]at hj;obtain⟨y,hy,hf⟩:=Option.map_eq_some_iff.1 hj;exact .inl ⟨j,rfl,Zb hy (by rw[hf];simp)⟩
 |none=>
  refine .inr ⟨rfl, ?_⟩;rw[Bool.eq_false_iff];intro hc;obtain⟨y,hy,he⟩:=List.any_eq_true.1 hc;obtain⟨j,hj⟩:=List.getElem?_of_mem hy;exact Xf h j (by rw[List.getElem?_map,hj];exact congrArg some (beq_iff_eq.1 he))
theorem IG (vl:Value) (l:List TripD) (id:Ψ) (r:Int) (H:Hid (bI (qm id (l.map (λx=>x.id.data.toList)))=r)) (B:Nat) (w:World) (hl:jA tripCells 5 B w vl l) (hB:B<=w.heap.size):
  Calls prog 226 #[vl,qP id] w λe w'=>e=.returned (r:Z)/\Bl w w':=by
 obtain⟨al,capl,rfl,ll1,ll2⟩:=hl.val;have HL:=qA hl;clear hl;go_enter func226,ntmps226
 go_wp2_with fail;go_loopw [5] (λi wr=> ∃ k:Nat,(k<=l.length/\i=k)/\Hid (∀ j,j<k->(l.map (λx=>x.id.data.toList))[j]? ≠some id)/\Hid (Bl w wr)) (λi _=>l.length-(intOf i).toNat)
 case atStart=>exact⟨0,⟨qAD _,rfl⟩,λj hj=>absurd hj (Nat.not_lt_zero j),qB _⟩
 obtain⟨k,⟨hk,rfl⟩,HN,HBL⟩:=hrel;by_cases hlt:k<l.length
 ·
  obtain⟨bl',ol,x,rfl,hbs,hx,hc⟩:=HL.o.get hlt HBL.o hB;obtain⟨xi,hxi⟩:=ε ((λx=>x.id.data.toList) x);have d0:wr.cell? (bl',ol+k*5)=some (qP xi):=by rw[<-hxi];exact hc 0 _ rfl
  have hkI:(k:Int)<(l.length:Int):=ω
  have HX:=qA (show(l.map (λx=>x.id.data.toList))[k]? =some xi by rw[List.getElem?_map,hx,<-hxi];rfl);clear hx hc hxi;cases hq:xi==id with
  |true=>
   have HR:=qA (show(k:Int)=r by rw[<-H.o,yE HN.o (HX.o.trans (congrArg some (beq_iff_eq.1 hq)))];rfl);go_wp2_with fail;try go_quiet (fail)
   try go_wp2
   go_ret;exact⟨qR HR.o,HBL.o⟩
  |false=>
   have HN':=qA (BR HN.o HX.o hq);go_wp2_with fail;try go_quiet (fail)
   try go_wp2
   go_roundw;case rel=>exact⟨k+1,⟨ω,by go_num⟩,HN',HBL⟩
   simp[intOf];omega
 have HR:=qA (show(-1:Int)=r by rw[<-H.o,Jc (λj hj=>HN.o j (by rw[U4]at hj;omega))];rfl);go_wp2;go_ret;exact⟨qR HR.o,HBL.o⟩
theorem Dz (v:Value) (cs:List CallD) (stops e:Int) (H:Hid (yU stops 0 172800 cs=e)) (B:Nat) (w:World) (hv:CallsIn B w v cs) (hB:B<=w.heap.size):
  Calls prog 227 #[v,stops] w λq w'=>q=.returned (e:Z)/\Bl w w':=by
 obtain⟨al,capl,rfl,ll1,ll2⟩:=hv.val;by_cases hbad:cs.length<2∨32<cs.length
 ·
  have HF:=qA (show(5:Int)=e by rw[<-H.o];unfold yU;rw[U6 hbad]);by_cases h:cs.length<2
  ·
   go_enter func227,ntmps227
   go_wp2;go_ret;exact⟨qR HF.o,qB _⟩
  have h':32<cs.length:=ω
  go_enter func227,ntmps227
  go_wp2;go_ret;exact⟨qR HF.o,qB _⟩
 have HL:=qA hv;have n1:2<=cs.length:=ω
 have n2:cs.length<=32:=ω
 have HS:=qA (show QB stops 0 172800 (Ms.jh cs 0) (cs.drop 0)=e by rw[<-H.o];unfold yU;rw[U5 hbad];rfl);clear hv H hbad;go_enter func227,ntmps227
 go_wp2;go_loopw [5] (λi wr=> ∃ k:Nat,(k<=cs.length/\i=k)/\Hid (QB stops 0 172800 (Ms.jh cs k) (cs.drop k)=e)/\Hid (Bl w wr)) (λi _=>cs.length-(intOf i).toNat)
 case atStart=>exact⟨0,⟨qAD _,rfl⟩,HS,qB _⟩
 obtain⟨k,⟨hk,rfl⟩,HK,HBL⟩:=hrel;by_cases hlt:k<cs.length
 rotate_left
 ·
  have HF:=qA (show(0:Int)=e by rw[<-HK.o,List.drop_eq_nil_of_le ω];rfl);go_wp2;go_ret;exact⟨qR HF.o,HBL.o⟩
 obtain⟨b,o,x,rfl,hbs,hx,hc⟩:=HL.o.get hlt HBL.o hB;have g0:wr.cell? (b,o+k*5)=some (x.stop:Z):=hc 0 _ rfl;have g1:wr.cell? (b,o+k*5+1)=some (x.arrive:Z):=hc 1 _ rfl;have g2:wr.cell? (b,o+k*5+2)=some (x.depart:Z):=hc 2 _ rfl;have hkI:(k:Int)<(cs.length:Int):=ω
 have HX:=qA hx;have HBAD:Hid (∀ c:Int,jT stops 0 172800 (Ms.jh cs k) x=c->c≠0->c=e):=λc hc h0=>by rw[<-HK.o,Ms.XL hx (by rw[hc];exact h0),hc]
 have HGOOD:Hid (jT stops 0 172800 (Ms.jh cs k) x=0->QB stops 0 172800 (Ms.jh cs (k+1)) (cs.drop (k+1))=e):=λh=>by rw[<-Ms.XK hx h];exact HK.o
 clear hx hc;by_cases h1:x.stop<0∨stops<=x.stop
 ·
  have HF:=qA (HBAD.o 9 (Ms.Ap h1) δ);go_wp2;all_goals first
   |(exfalso;omega)
   |(go_ret;exact⟨qR HF.o,HBL.o⟩)
 have s1: ¬ x.stop<0:=λh=>h1 (.inl h)
 have s2: ¬ stops<=x.stop:=λh=>h1 (.inr h)
 by_cases hz:0<k
 ·
  obtain⟨j,hj⟩: ∃ j,k=j+1:=⟨k-1,ω⟩;have hjl:j<cs.length:=ω
  obtain⟨p,hp⟩: ∃ p,cs[j]? =some p:=⟨_,U2 hjl⟩;have k0:wr.cell? ⟨b,o+j*5,none⟩=some (.int .i64 p.stop):=HL.o.cellsAt hp HBL.o hB 0 _ rfl;have k2:wr.cell? ⟨b,o+j*5+2,none⟩=some (.int .i64 p.depart):=HL.o.cellsAt hp HBL.o hB 2 _ rfl;have jI:((k:Int)-1)=(j:Int):=ω
  have jL:(j:Int)<(cs.length:Int):=ω
  have jW:IntKind.i64.wrap (j:Int)=(j:Int):=IntWalk.i64_in _ ω;have HPV:=qA (show Ms.jh cs k=some p by rw[hj];exact Ms.KU hp);clear hp hj;by_cases h2:p.stop=x.stop
  ·
   have HF:=qA (HBAD.o 13 (by rw[HPV.o];exact Ms.mG h1 h2) δ);have h2':(x.stop==p.stop)=true:=by rw[beq_iff_eq];exact h2.symm
   clear h2;go_wp2_with fail;go_quiet (fail)
   go_wp2;go_ret;exact⟨qR HF.o,qM HBL.o _⟩
  have h2':(x.stop==p.stop)=false:=by rw[U0];exact λh=>h2 h.symm
  go_wp2_with fail;go_quiet (fail)
  go_wp2_with fail;generalize hw1:wr.drewN _=w1
  have b1:Bl wr w1:=by rw[<-hw1];exact qM (qB _) _
  have B1:=qA (qF HBL.o b1);have z1:w1.cell? (b,o+k*5+1)=some (x.arrive:Z):=((qG b1).1 _ _ hbs).trans g1;have z2:w1.cell? (b,o+k*5+2)=some (x.depart:Z):=((qG b1).1 _ _ hbs).trans g2;have z3:w1.cell? ⟨b,o+j*5+2,none⟩=some (.int .i64 p.depart):=((qG b1).1 _ _ hbs).trans k2;clear hw1 b1 g0 g1 g2 k0 k2 h2';by_cases hT:x.arrive<0∨x.depart<x.arrive∨172800<x.depart∨x.arrive<p.depart
  ·
   have HF:=qA (HBAD.o 10 (by rw[HPV.o];exact Ms.JD h1 h2 hT) δ);clear h1 h2;by_cases t1:x.arrive<0
   ·
    clear hT;go_quiet (fail)
    go_wp2;go_ret;exact⟨qR HF.o,qM B1.o _⟩
   by_cases t2:x.depart<x.arrive
   ·
    clear hT;go_quiet (fail)
    go_wp2;go_ret;exact⟨qR HF.o,qM B1.o _⟩
   by_cases t3:172800<x.depart
   ·
    clear hT;go_quiet (fail)
    go_wp2;go_ret;exact⟨qR HF.o,qM B1.o _⟩
   have t4:x.arrive<p.depart:=ω
   clear hT;go_quiet (fail)
   go_wp2;go_ret;exact⟨qR HF.o,qM B1.o _⟩
  have HN:=qA (HGOOD.o (by rw[HPV.o];exact Ms.Am h1 h2 hT));have t1: ¬ x.arrive<0:=λh=>hT (.inl h)
  have t2: ¬ x.depart<x.arrive:=λh=>hT (.inr (.inl h))
  have t3: ¬ 172800<x.depart:=λh=>hT (.inr (.inr (.inl h)))
  have t4: ¬ x.arrive<p.depart:=λh=>hT (.inr (.inr (.inr h)))
  clear hT h1 h2;go_quiet (fail)
  go_wp2;go_roundw;case rel=>exact⟨k+1,⟨ω,by go_num⟩,HN,qM B1.o _⟩
  simp[intOf];omega
 have HPV:=qA (show Ms.jh cs k=none by unfold Ms.jh;rw[U6 ω]);go_wp2_with fail;go_quiet (fail)
 go_wp2_with fail;generalize hw1:wr.drewN _=w1
 have b1:Bl wr w1:=by rw[<-hw1];exact qM (qB _) _
 have B1:=qA (qF HBL.o b1);have z1:w1.cell? (b,o+k*5+1)=some (x.arrive:Z):=((qG b1).1 _ _ hbs).trans g1;have z2:w1.cell? (b,o+k*5+2)=some (x.depart:Z):=((qG b1).1 _ _ hbs).trans g2;clear hw1 b1 g0 g1 g2;by_cases hT:x.arrive<0∨x.depart<x.arrive∨172800<x.depart
 ·
  have HF:=qA (HBAD.o 10 (by rw[HPV.o];exact Ms.Ku h1 hT) δ);clear h1;by_cases t1:x.arrive<0
  ·
   clear hT;go_quiet (fail)
   go_wp2;go_ret;exact⟨qR HF.o,qM B1.o _⟩
  by_cases t2:x.depart<x.arrive
  ·
   clear hT;go_quiet (fail)
   go_wp2;go_ret;exact⟨qR HF.o,qM B1.o _⟩
  have t3:172800<x.depart:=ω
  clear hT;go_quiet (fail)
  go_wp2;go_ret;exact⟨qR HF.o,qM B1.o _⟩
 have HN:=qA (HGOOD.o (by rw[HPV.o];exact Ms.Ak h1 hT));have t1: ¬ x.arrive<0:=λh=>hT (.inl h)
 have t2: ¬ x.depart<x.arrive:=λh=>hT (.inr (.inl h))
 have t3: ¬ 172800<x.depart:=λh=>hT (.inr (.inr h))
 clear hT h1;go_quiet (fail)
 go_wp2;go_roundw;case rel=>exact⟨k+1,⟨ω,by go_num⟩,HN,qM B1.o _⟩
 simp[intOf];omega
theorem NC (vl:Value) (ts:List TripD) (k:Nat) (x:TripD) (hx:ts[k]? =some x) (stops routes cals e:Int) (H:Hid (zG stops routes cals ((ts.take k).map xOf) (xOf x)=e)) (hsz:x.id.data.toList.length<=9223372036854775807) (B:Nat) (w:World) (hl:vP B w vl ts) (hB:B<=w.heap.size):
  Calls prog 169 #[vl,k,stops,routes,cals] w λq w'=>q=.returned (e:Z)/\Bl w w':=by
 obtain⟨al,capl,rfl,ll1,ll2⟩:=hl.sl.val;have HL:=qA hl;have hlt:k<ts.length:=(Uw.1 hx).1;obtain⟨bl',ol,x',rfl,hbs,hx',hc⟩:=hl.sl.get hlt (qB w) hB;obtain rfl:x=x':=by rw[hx]at hx';exact qAB hx'
 obtain⟨ax,cx,hvx,-,-⟩:=(hl.ok x (Uz hx)).calls.val;obtain⟨xi,hxi⟩:=ε x.id.data.toList;have hse:Value.string x.id=qP xi:=by rw[<-hxi]
 have d0:w.cell? (bl',ol+k*5)=some (qP xi):=by rw[<-hse];exact hc 0 _ rfl
 have d1:w.cell? (bl',ol+k*5+1)=some (x.rt:Z):=hc 1 _ rfl;have d2:w.cell? (bl',ol+k*5+2)=some (x.cal:Z):=hc 2 _ rfl;have d3:w.cell? (bl',ol+k*5+3)=some (x.step:Z):=hc 3 _ rfl;have d4:w.cell? (bl',ol+k*5+4)=some (.slice ax x.calls.length cx):=by rw[<-hvx];exact hc 4 _ rfl
 have hkI:(k:Int)<(ts.length:Int):=ω
 have hk0:(0:Int)<=(k:Int):=ω
 have hkl:(k:Int)<=(ts.length:Int):=ω
 have hkc:(k:Int)<=(capl:Int):=ω
 have HXI:=qA hxi;rw[hxi]at hsz;have HCI:=qA (show CallsIn B w (.slice ax x.calls.length cx) x.calls by rw[<-hvx];exact(hl.ok x (Uz hx)).calls);have HE:Hid (∀ c:Int,zG stops routes cals ((ts.take k).map xOf) (xOf x)=c->c=e):=λc h=>h.symm.trans H.o
 obtain⟨p,hp⟩:=ε (jU xi);have HP:=qA hp;have hid:=λw=>oQ ⟨xi.toArray⟩ (by show xi.toArray.size<=_;rw[List.size_toArray];unfold maxLen;omega) p HP w
 obtain⟨r,hr⟩:=ε (bI (qm xi ((ts.take k).map λx=>x.id.data.toList)));have HR:=qA hr;have HQ:Hid ((0<=r/\(((ts.take k).map xOf).any λy=>y.id==(xOf x).id)=true)∨(r<0/\(((ts.take k).map xOf).any λy=>y.id==(xOf x).id)=false)):=by
  show _∨_
  rw[List.any_map,<-hr];have hx2:(xOf x).id=xi:=hxi;rw[hx2];rcases Fb (λx:TripD=>x.id.data.toList) xi (ts.take k)with⟨j,h1,h2⟩|⟨h1,h2⟩
  · exact .inl ⟨by rw[h1];exact Int.natCast_nonneg j,h2⟩
  exact .inr ⟨by rw[h1];decide,h2⟩
 obtain⟨e9,h9⟩:=ε (yU stops 0 172800 x.calls);have H9:=qA h9;obtain⟨w2,hw2⟩:=ε (w.alloc (.cells #[qP xi,x.rt,x.cal,x.step,.slice ax x.calls.length cx] 56));have b2:Bl w w2:=by rw[<-hw2];exact qE (qB _) _
 have t0:w2.cell? (w.heap.size,0)=some (qP xi):=by rw[<-hw2,Uy (hn:=rfl)];rfl
 have t1:w2.cell? (w.heap.size,1)=some (x.rt:Z):=by rw[<-hw2,Uy (hn:=rfl)];rfl
 have t2:w2.cell? (w.heap.size,2)=some (x.cal:Z):=by rw[<-hw2,Uy (hn:=rfl)];rfl
 have t4:w2.cell? (w.heap.size,4)=some (.slice ax x.calls.length cx):=by rw[<-hw2,Uy (hn:=rfl)];rfl
 have s2:w.heap.size<w2.heap.size:=by rw[<-hw2];simp
 have B2:=qA b2;clear hx hx' hc hl hse hvx hxi hp hr h9 b2 H;cases p with
 |false=>
  have HF:=qA (HE.o 12 (by unfold zG;rw[show(xOf x).id=xi from HXI.o,U6 HP.o]));go_enter func169,ntmps169
  go_wp2_with (go_at_call 167;refine(hid _).mono ?_;rintro e w3 ⟨rfl,rfl⟩)
  go_ret;exact⟨qR HF.o,B2.o⟩
 |true=>
 have HP1:=qA (show ¬ jU (xOf x).id=false by rw[show(xOf x).id=xi from HXI.o,HP.o];decide);go_enter func169,ntmps169
 go_wp2_with (go_at_call 167;refine(hid _).mono ?_;rintro e w3 ⟨rfl,rfl⟩)
 clear hw2 d0 d1 d2 d3 d4 hid;go_region_held3 (λw'=>w'.cell? (w.heap.size,0)=some (qP xi)) (first|exact t0|exact((qG (qF (qH (qB _)) b4)).1 _ _ ω).trans t0) (first|(go_at_call 226;(with_reducible refine(IG _ (ts.take k) xi r HR B _ ((HL.o.sl.take (k:=k) ω).o (qF B2.o (qH (qB _))) hB) (by have:=B2.o.size;simp;omega)).mono ?_);rintro e w4 ⟨rfl,b4⟩))
 all_goals
  have b24:Bl w2 w4:=qF (qH (qB _)) b4;have B4:=qA (qF B2.o b24);have u1:w4.cell? (w.heap.size,1)=some (x.rt:Z):=((qG b24).1 _ _ ω).trans t1;have u2:w4.cell? (w.heap.size,2)=some (x.cal:Z):=((qG b24).1 _ _ ω).trans t2;have u4:w4.cell? (w.heap.size,4)=some (.slice ax x.calls.length cx):=((qG b24).1 _ _ ω).trans t4;have hB4:B<=w4.heap.size:=Ux hB B4.o.size;clear b24 b4 t0 t1 t2 t4 s2;by_cases hd:0<=r
  ·
   have HF:=qA (HE.o 6 (by unfold zG;rw[U5 HP1.o,U6 (by rcases HQ.o with⟨-,h⟩|⟨h,-⟩;exact h;omega)]));go_wp2;go_ret;exact⟨qR HF.o,B4.o⟩
  have HQ1:=qA (show ¬ (((ts.take k).map xOf).any λy=>y.id==(xOf x).id)=true by rcases HQ.o with⟨h,-⟩|⟨-,h⟩;omega;rw[h];decide);by_cases hout:(x.rt<0∨routes<=x.rt)∨(x.cal<0∨cals<=x.cal)
  ·
   have HF:=qA (HE.o 9 (by unfold zG;rw[U5 HP1.o,U5 HQ1.o,U6 (by show(qK x.rt 0 (routes-1)||qK x.cal 0 (cals-1))=true;unfold qK;simp;omega)]));go_wp2;all_goals first
    |(exfalso;omega)
    |(go_ret;exact⟨qR HF.o,B4.o⟩)
  have HF:=qA (HE.o e9 (by unfold zG;rw[U5 HP1.o,U5 HQ1.o,U5 (by show ¬ (qK x.rt 0 (routes-1)||qK x.cal 0 (cals-1))=true;unfold qK;simp;omega)];exact H9.o));have n1:0<=x.rt:=ω
  have n2:x.rt<routes:=ω
  have n3:0<=x.cal:=ω
  have n4:x.cal<cals:=ω
  have hcc:=Dz (.slice ax x.calls.length cx) x.calls stops e9 H9 B w4 (HCI.o.o B4.o hB) hB4;clear hout;go_wp2_with (go_at_call 227;refine hcc.mono ?_;rintro e w5 ⟨rfl,b5⟩)
  go_ret;exact⟨qR HF.o,qF B4.o b5⟩
theorem II (vl:Value) (ts:List TripD) (stops routes cals:Int) (l:List TripX) (hts:l=ts.map xOf) (r:Int×Int) (H:Hid (qZ 256 (zG stops routes cals) l=r)) (hs:Hid (∀ x∈l,x.id.length<=9223372036854775807)) (B:Nat) (w:World) (hl:vP B w vl ts) (hB:B<=w.heap.size):
  Calls prog 97 #[vl,stops,routes,cals] w λe w'=>e=.returned (.tuple #[r.1,r.2])/\Bl w w':=by
 obtain⟨al,capl,rfl,ll1,ll2⟩:=hl.sl.val;have hlen:l.length=ts.length:=by rw[hts,U4]
 have HL:=qA hl;have HTS:=qA hts;clear hl hts;by_cases hmany:256<ts.length
 ·
  have HR:=qA (zM (err:=(zG stops routes cals)) (l:=l) (most:=256) ω);clear hlen;go_enter func97,ntmps97
  go_wp2;go_ret2;exact⟨qY HR.o H.o,qB _⟩
 have hfew:ts.length<=256:=ω
 have HR:Hid (wU (zG stops routes cals) (l.take 0) (l.drop 0)=r):=(zf ω).symm.trans H.o;have HLEN:=qA hlen;clear hmany hlen;go_enter func97,ntmps97
 go_wp2_with fail;go_loopw [10] (λi wr=> ∃ k:Nat,(k<=ts.length/\i=k)/\Hid (wU (zG stops routes cals) (l.take k) (l.drop k)=r)/\Hid (Bl w wr)) (λi _=>ts.length-(intOf i).toNat)
 case atStart=>exact⟨0,⟨qAD _,rfl⟩,HR,qB _⟩
 obtain⟨k,⟨hk,rfl⟩,HC,HBL⟩:=hrel;by_cases hlt:k<ts.length
 rotate_left
 ·
  have HE:=qA (jy (err:=(zG stops routes cals)) (show l.length<=k by rw[HLEN.o];omega));go_wp2;go_ret2;exact⟨qY HE.o HC.o,HBL.o⟩
 obtain⟨x,hx⟩: ∃ x,ts[k]? =some x:=⟨_,U2 hlt⟩;have HX:Hid (l[k]? =some (xOf x)):=by show _=_;rw[HTS.o,List.getElem?_map,hx];rfl
 obtain⟨e,he⟩:=ε (zG stops routes cals (l.take k) (xOf x));have HE:=qA he;have h1:=NC _ ts k x hx stops routes cals e (by show _=_;rw[List.map_take,<-HTS.o];exact he) (hs.o (xOf x) (Uz HX.o)) B wr (HL.o.bl HBL.o hB) (Ux hB HBL.o.size);clear hx he;go_wp2_with (go_at_call 169;refine h1.mono ?_;rintro e' w3 ⟨rfl,b3⟩;have B3:=qA (qF HBL.o b3);clear b3;by_cases h0:e=0;have q:(e != 0)=false:=(by rw[h0];rfl);rotate_left;have q:(e != 0)=true:=(by rw[bne_iff_ne];exact h0))
 all_goals first
  |(go_ret2;exact⟨qY (qU (err:=(zG stops routes cals)) HX.o HE.o h0) HC.o,B3.o⟩)
  |exact⟨⟨k+1,⟨ω,by go_num⟩,(jS (err:=(zG stops routes cals)) HX.o (HE.o.trans h0)).symm.trans HC.o,B3.o⟩,by simp[intOf];omega⟩
