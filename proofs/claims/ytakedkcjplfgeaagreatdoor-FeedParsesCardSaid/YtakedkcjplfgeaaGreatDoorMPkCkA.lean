/- Contracts, proved. Conditions: theirs. -/
import Derived.Test.YtakedkcjplfgeaaGreatDoorRows
import Derived.Test.YtakedkcjplfgeaaGreatDoorMPkShelf
import Derived.Test.YtakedkcjplfgeaaGreatDoorMPkBase
import Derived.Test.YtakedkcjplfgeaaGreatDoorMPkPlain
import Derived.WalkSpells
import Derived.WalkLawsBesides
import Derived.Lib.SmallJoins
import Derived.BigQuiet
set_option maxRecDepth 1000000
set_option maxHeartbeats 32000000
open Go.Proofs.Tryz
namespace Go.Proofs.YtakedkcjplfgeaaGreatDoor.Ck
open Go.RowKit
theorem ZJ (b:Nat) (w:World) (h0:w.cell? (b,0)=some ((b,0):Z)):
  Calls prog 155 #[(b,0)] w λe w'=>e=.returned (.tuple #[])/\w'=w:=by
 obtain⟨j,hj,_⟩:=Option.map_eq_some_iff.1 Builder_Extra_169.sizeBuilder;have hj':prog.info? 142=some j:=hj;go_enter func155,ntmps155
 go_wp2;rw[Lib.run_neq_ptr_same w _ underlying139 hj'];go_wp2;go_end0;exact⟨rfl,rfl⟩
theorem Qn (b:Nat) (w:World) (h0:w.cell? ⟨b,0,none⟩=some (.pointer none)) (hsh:w.shape? b=some (142,2)) (hfz:w.frozen? ⟨b,0,none⟩=false):
  Calls prog 155 #[.pointer (some ⟨b,0,none⟩)] w λe w'=>e= .returned (.tuple #[])/\w'=w.setCell ⟨b,0,none⟩ (.pointer (some ⟨b,0,none⟩)):=by
 obtain⟨j,hj,hjs⟩:=Option.map_eq_some_iff.1 Builder_Extra_169.sizeBuilder;have hj':prog.info? 142=some j:=hj;go_enter func155,ntmps155
 go_wp2;rw[Lib.run_to_unsafe w ⟨b,0,none⟩ underlying139 underlying229 hj' (by rw[hjs];decide) hsh (Nat.zero_lt_succ 1)];simp only[Result.andThen];rw[Oper.upon_value];go_wp2;rw[run_callFunc_extern func220 κ κ κ (e:=Extern.AbiNoEscape.same) κ];rw[Lib.run_noEscape];simp only[Result.andThen];rw[Oper.upon_value];go_wp2;rw[Lib.run_from_unsafe w ⟨b,0,none⟩ underlying229 underlying139 hj' hsh Builder_Extra_169.liesBuilder];simp only[Result.andThen];rw[Oper.upon_value];go_wp2;go_end0;exact⟨rfl,rfl⟩
theorem Zf (B b:Nat) (bs:List Value) (w:World) (h:Lib.IsBuilder 142 5 B b bs w):
  Calls prog 155 #[(b,0)] w λe w'=>e=.returned (.tuple #[])/\(Lib.BuilderAt 142 5 B b ((b,0):Z) bs w'/\Below B w w'):=by
 rcases h with h|h
 ·
  refine(Qn b w h.cell0 h.shape h.frozen0).mono ?_;rintro e w' ⟨rfl,rfl⟩;exact⟨rfl,h.used _,(Below.refl B w).setCell (p:=((b,0):A)) h.1 _⟩
 refine(ZJ b w h.cell0).mono ?_;rintro e w' ⟨rfl,rfl⟩;exact⟨rfl,h,Below.refl B _⟩
theorem vk:(prog.info? 5).map (λi=>(i.zero,i.size,i.bytes))=some (some (.int .u8 0),1,1):=κ
theorem Z9 (B b:Nat) (bs:List Value) (s:Φ) (w:World) (h:Lib.IsBuilder 142 5 B b bs w) (hlen:bs.length+s.size<=140737488355328) (hBw:B<=w.heap.size):
  Calls prog 80 #[(b,0),s] w λe w'=>e=.returned (.tuple #[s.size,.nilIface])/\(Lib.BuilderAt 142 5 B b ((b,0):Z) (bs++Lib.strCells s) w'/\Below B w w'):=by
 obtain⟨i0,hi,hz0,hz1,hz2⟩:=info_parts vk;go_enter func80,ntmps80
 go_wp2_with (go_at_call 155;refine(Zf B b bs _ h).mono ?_)
 rintro e w1 ⟨rfl,h1,hb1⟩;obtain⟨hB,v,hbk,hown,hne⟩:=h1;have c0:w1.cell? (b,0)=some ((b,0):Z):=by rw[Lib.cell_of_heap hbk];rfl
 have c1:w1.cell? (b,1)=some v:=by rw[Lib.cell_of_heap hbk];rfl
 go_wp2_with (at_builtin;refine Lib.wpList_append_own_string _ rfl _ _ 140 9 rfl B 5 i0 underlying140 underlying9 hi hz0 hz1 hz2 _ _ _ rfl hown s rfl ?c3 ?c4 ?c5 ?_)
 case c3=>unfold maxLen;omega
 case c4=>omega
 case c5=>have:=hb1.size;omega
 intro v' w2 hown' hgrow _;have hlt:b<w1.heap.size:=by
  rcases Nat.lt_or_ge b w1.heap.size with h'|h'
  · exact h'
  simp[Array.getElem?_eq_none h']at hbk
 have hb2:w2.heap[b]? =some (.cells #[(b,0),v] 142 (0,0)):=by
  rw[hgrow.block b hlt (λe=>hne e.symm)];exact hbk
 have d0:w2.cell? (b,0)=some ((b,0):Z):=by rw[Lib.cell_of_heap hb2];rfl
 have d1:w2.cell? (b,1)=some v:=by rw[Lib.cell_of_heap hb2];rfl
 have f1:w2.frozen? (b,1)=false:=U8 hb2 1;obtain⟨ao,n',cap,rfl⟩: ∃ ao n' cap,v'=.slice ao n' cap:=by
  rcases hown'.2 with⟨hv,_⟩|⟨g,cap,cur,hv,_⟩
  · exact⟨_,_,_,hv⟩
  exact⟨_,_,_,hv⟩
 go_wp2;go_ret2;refine⟨rfl, ?_, ?_⟩
 · exact Lib.BuilderAt.put (T:=142) (e:=5) hB hb2 (bs':=bs++Lib.strCells s) (by simpa[Lib.strCells_length]using hown') δ
 exact(hb1.grown hgrow (by have:=hb1.size;omega) (λk hk=>(hown.lt k hk).1)).setCell (p:=((b,1):A)) hB _
open Num Clk
theorem qR {k:IntKind} {a b:Int} (h:a=b):Ending.returned (.int k a)=.returned (.int k b):=by rw[h]
theorem qO {a b:Bool} (h:a=b):Ending.returned (a:Z)=.returned (b:Z):=by rw[h]
theorem VL {a b:Φ} (h:a=b):Ending.returned (a:Z)=.returned (b:Z):=by rw[h]
theorem VK {a b:Φ} {x:Value} (h:a=b):Ending.returned (.tuple #[a,x])=.returned (.tuple #[b,x]):=by rw[h]
theorem wI {k:IntKind} {a b:Int} {x:Value} (h:a=b):Ending.returned (.tuple #[.int k a,x])=.returned (.tuple #[.int k b,x]):=by rw[h]
abbrev qP (l:Ψ):Value:=.string ⟨l.toArray⟩
theorem Na (W:World) (b:Nat) (x:Int) (h0:W.cell? (b,0)=some (.int .u8 x)):
  (convert 140 9 ((b,0,1,1):Z)).run prog W=.ok (.string ⟨#[UInt8.ofNat x.toNat]⟩) W:=
 run_convert_bytes_arg W 140 5 underlying140 underlying5 b 0 1 1 [x] rfl (by
  intro i hi
  match i,hi with
  |0,_=>simpa using h0) 9 underlying9
theorem lV (W:World) (b:Nat) (x y:Int) (h0:W.cell? (b,0)=some (.int .u8 x)) (h1:W.cell? (b,1)=some (.int .u8 y)):
  (convert 140 9 ((b,0,2,2):Z)).run prog W=.ok (.string ⟨#[UInt8.ofNat x.toNat,UInt8.ofNat y.toNat]⟩) W:=
 run_convert_bytes_arg W 140 5 underlying140 underlying5 b 0 2 2 [x,y] rfl (by
  intro i hi
  match i,hi with
  |0,_=>simpa using h0
  |1,_=>simpa using h1) 9 underlying9
def vW (t:Int):Bool:=decide (0<=t)&&decide (t<=172800)
theorem Jn (t:Int) (b:Bool) (h:Hid (vW t=b)) (w:World):Calls prog 265 #[t] w λe w'=>e=.returned (b:Z)/\w=w':=by
 by_cases h0:0<=t
 ·
  by_cases h1:t<=172800
  ·
   have HB:=qA (show b=true by rw[<-h.o];simp[vW,h0,h1]);go_enter func265,ntmps265
   go_wp2;go_ret;exact⟨qO (by rw[HB.o]),rfl⟩
  have HB:=qA (show b=false by rw[<-h.o];simp[vW,h1]);go_enter func265,ntmps265
  go_wp2;go_ret;exact⟨qO (by rw[HB.o]),rfl⟩
 have HB:=qA (show b=false by rw[<-h.o];simp[vW,h0]);go_enter func265,ntmps265
 go_wp2;go_ret;exact⟨qO (by rw[HB.o]),rfl⟩
theorem YO {t:Int} (h0:0<=t) (h1:t<=172800):Hid (vW t=true):=by show _=_;simp[vW,h0,h1]
theorem VS {t:Int} (h: ¬ (0<=t/\t<=172800)):Hid (vW t=false):=by
 show _=_
 by_cases h0:0<=t
 ·
  have: ¬ t<=172800:=λk=>h ⟨h0,k⟩
  simp[vW,this]
 simp[vW,h0]
theorem fC (t:Int) (h0:0<=t) (h1:t<=172800) (w:World):
  Calls prog 213 #[t] w λe w'=>e=.returned (.tuple #[.int .i64 (t / 3600),.int .i64 (t%3600 / 60),.int .i64 (t%60),true])/\w=w':=by
 go_enter func213,ntmps213
 go_wp2_with (go_at_call 265;refine(Jn _ true (YO h0 h1) _).mono ?_;rintro e w1 ⟨rfl,rfl⟩)
 refine bodyPost_ret (v:=.tuple #[.int .i64 (t / 3600),.int .i64 (t%3600 / 60),.int .i64 (t%60),true]) (by simp[results,results213,go_sem]) rfl ⟨rfl,rfl⟩
theorem oz (t:Int) (h: ¬ (0<=t/\t<=172800)) (w:World):
  Calls prog 213 #[t] w λe w'=>e=.returned (.tuple #["","","",false])/\w=w':=by
 have HV:=VS h;clear h;go_enter func213,ntmps213
 go_wp2_with (go_at_call 265;refine(Jn _ false HV _).mono ?_;rintro e w1 ⟨rfl,rfl⟩)
 refine bodyPost_ret (v:=.tuple #["","","",false]) (by simp[results,results213,go_sem]) rfl ⟨rfl,rfl⟩
theorem gZ (h m s n:Int) (ok:Bool) (H:Hid (join h m s=(n,ok))) (w:World):
  Calls prog 246 #[h,m,s] w λe w'=>e=.returned (.tuple #[n,ok])/\w=w':=by
 cases ok with
 |true=>
  obtain⟨⟨⟨a0,a1⟩,⟨b0,b1⟩,⟨c0,c1⟩,hs⟩,hn⟩:=nH H.o;have HN:=qA hn;clear hn;go_enter func246,ntmps246
  go_wp2_with (go_at_call 265;refine(Jn _ true (YO ω ω) _).mono ?_;rintro e w1 ⟨rfl,rfl⟩)
  go_ret2;exact⟨wI (by rw[HN.o]),rfl⟩
 |false=>
  obtain⟨rfl,hc⟩:=BM H.o;rcases(show h<0∨(0<=h/\48<h)∨(0<=h/\h<=48/\m<0)∨(0<=h/\h<=48/\0<=m/\59<m)∨(0<=h/\h<=48/\0<=m/\m<=59/\s<0)∨(0<=h/\h<=48/\0<=m/\m<=59/\0<=s/\59<s)∨(0<=h/\h<=48/\0<=m/\m<=59/\0<=s/\s<=59/\172800<3600*h+60*m+s) by omega)with
   k|⟨k1,k2⟩|⟨k1,k2,k3⟩|⟨k1,k2,k3,k4⟩|⟨k1,k2,k3,k4,k5⟩|⟨k1,k2,k3,k4,k5,k6⟩|⟨k1,k2,k3,k4,k5,k6,k7⟩
  all_goals clear hc
  ·
   go_enter func246,ntmps246
   go_wp2;go_ret2;exact⟨rfl,rfl⟩
  ·
   go_enter func246,ntmps246
   go_wp2;go_ret2;exact⟨rfl,rfl⟩
  ·
   go_enter func246,ntmps246
   go_wp2;go_ret2;exact⟨rfl,rfl⟩
  ·
   go_enter func246,ntmps246
   go_wp2;go_ret2;exact⟨rfl,rfl⟩
  ·
   go_enter func246,ntmps246
   go_wp2;go_ret2;exact⟨rfl,rfl⟩
  ·
   go_enter func246,ntmps246
   go_wp2;go_ret2;exact⟨rfl,rfl⟩
  go_enter func246,ntmps246
  go_wp2_with (go_at_call 265;refine(Jn _ false (VS ω) _).mono ?_;rintro e w1 ⟨rfl,rfl⟩)
  go_ret2;exact⟨rfl,rfl⟩
theorem aY (n:Int) (h0:0<=n) (h1:n<=99) (w:World):Calls prog 215 #[n] w λe w'=>e=.returned (qP (ZW n.toNat))/\Bl w w':=by
 have hcv:=lV;have HT:Hid ((⟨#[UInt8.ofNat (48+n / 10).toNat,UInt8.ofNat (48+n%10).toNat]⟩:Φ)=⟨(ZW n.toNat).toArray⟩):=by
  show _=_
  unfold ZW;rw[show(48+n / 10).toNat=48+n.toNat / 10 by omega,show(48+n%10).toNat=48+n.toNat%10 by omega]
 go_enter func215,ntmps215
 go_wp2;go_ret;exact⟨VL HT.o,qE (qB _) _⟩
def YP (ss:List Φ):Ψ:=(ss.map λs=>s.data.toList).flatten
theorem lU (ss:List Φ) (k:Nat) (h:k<ss.length):YP (ss.take (k+1))=YP (ss.take k)++(ss.getD k ByteArray.empty).data.toList:=by
 have e:ss.getD k ByteArray.empty=ss[k]:=by simp[List.getD,h]
 unfold YP;rw[e,List.take_succ_eq_append_getElem h,List.map_append,List.flatten_append];simp only[List.map_cons,List.map_nil,List.flatten_cons,List.flatten_nil,List.append_nil]
theorem Vy (ss:List Φ) (k:Nat):(YP (ss.take k)).length<=(YP ss).length:=by
 have:YP ss=YP (ss.take k)++YP (ss.drop k):=by
  unfold YP;rw[<-List.flatten_append,<-List.map_append,List.take_append_drop]
 rw[this,U1];omega
theorem Pj (b0 k:Nat) (ss:List Φ) (hk:ss.length=k) (w:World) (hc: ∀ i,i<k->w.cell? ⟨b0,i,none⟩=some (.string (ss.getD i ByteArray.empty))) (hb0:b0<w.heap.size) (hsz:(YP ss).length<=140737488355328) (hkm:k<=1000):
  Calls prog 214 #[(b0,0,k,k)] w λe w'=>e=.returned (qP (YP ss))/\Bl w w':=by
 have HC:=qA hc;have HK:=qA hk;clear hc hk;go_enter func214,ntmps214
 go_wp2;go_loopw [8] (λi wr=> ∃ j:Nat,j<=k/\i=j/\Lib.IsBuilder 142 5 w.heap.size w.heap.size (Lib.byteCells (YP (ss.take j))) wr/\Bl w wr) (λi _=>k-(intOf i).toNat)
 case atStart=>exact⟨0,qAD _,rfl,Lib.fresh_isBuilder _ _ w,qE (qB _) _⟩
 obtain⟨j,hj,rfl,hI,hb⟩:=hrel;have HI:=qA hI;clear hI;by_cases hlt:j<k
 ·
  obtain⟨s,hs⟩: ∃ s,s=ss.getD j ByteArray.empty:=⟨_,rfl⟩;have hcx:wr.cell? (b0,j)=some (.string s):=by
   rw[hb.cell (p:=((b0,j):A)) hb0,HC.o j hlt,hs]
  have HS:=qA (lU ss j (by rw[HK.o];exact hlt));have hle:=Vy ss (j+1);rw[HS.o,<-hs,U1]at hle;have hle':(YP (ss.take j)).length+s.size<=140737488355328:=by
   have:s.data.toList.length=s.size:=σ
   omega
  have HSS:=qA hs;clear hs;go_wp2_with (go_at_call 80;refine(Z9 w.heap.size w.heap.size _ s _ HI.o (by rw[Lib.byteCells_length];exact hle') hb.size).mono ?_;rintro e w1 ⟨rfl,h1,b1⟩)
  go_roundw;case rel=>exact⟨j+1,ω,by go_num,.inr (by rw[HS.o,<-HSS.o,Lib.byteCells_append];exact h1),hb.trans b1⟩
  simp[intOf];omega
 have HE:=qA (show YP (ss.take j)=YP ss by rw[U9 (by rw[HK.o];omega)]);go_wp2_with (go_at_call 82;refine(Builder_String_any w.heap.size w.heap.size (YP (ss.take j)) _ HI.o hb.size).mono ?_;rintro e w1 ⟨rfl,b1⟩)
 go_ret;exact⟨VL (by rw[HE.o]),hb.trans b1⟩
theorem dY (w:World) (ss:List Φ) (c:Array Value) (T:TypeId) (h:c=(ss.map Value.string).toArray): ∀ i,i<ss.length->(w.alloc (.cells c T)).cell? ⟨w.heap.size,i,none⟩=some (.string (ss.getD i ByteArray.empty)):=by
 intro i hi;subst h;rw[Uy (hn:=rfl)];simp[List.getD,hi]
theorem Yr (w:World) (ss:List Φ) (c:Array Value) (k:Nat) (h:c=(ss.map Value.string).toArray) (hk:ss.length=k) (l:Ψ) (hl:YP ss=l) (hsz:l.length<=1000) (hkm:k<=1000):
  Calls prog 214 #[(w.heap.size,0,k,k)] (w.alloc (.cells c 9)) λe w'=>e=.returned (qP l)/\Bl w w':=by
 refine(Pj w.heap.size k ss hk _ (by rw[<-hk];exact dY w ss c _ h) σ (by rw[hl];omega) hkm).mono ?_;rintro e w' ⟨rfl,hb⟩;exact⟨by rw[hl],qF (qE (qB _) _) hb⟩
theorem Pi (a b c d e:Ψ):YP [⟨a.toArray⟩,⟨b.toArray⟩,⟨c.toArray⟩,⟨d.toArray⟩,⟨e.toArray⟩]=a++(b++(c++(d++e))):=by simp[YP]
theorem Px (t:Int) (l:Ψ) (e:Int) (H:Hid (xU t=(l,e))) (w:World):
  Calls prog 150 #[t] w λr w'=>r=.returned (.tuple #[qP l,e])/\Bl w w':=by
 have H':=H.o;unfold xU at H';by_cases h:0<=t/\t<=172800
 ·
  rw[U6 h,qAF]at H';obtain⟨rfl,rfl⟩:=H';clear H;obtain⟨h0,h1⟩:=h;go_enter func150,ntmps150
  go_wp2_with fail;refine(fC t h0 h1 _).mono ?_;rintro e w1 ⟨rfl,rfl⟩;go_wp2_with fail;refine(aY _ ω ω _).mono ?_;rintro e w1 ⟨rfl,b1⟩;go_wp2_with fail;refine(aY _ ω ω _).mono ?_;rintro e w2 ⟨rfl,b2⟩;go_wp2_with fail;refine(aY _ ω ω _).mono ?_;rintro e w3 ⟨rfl,b3⟩;go_wp2_with fail;refine(Yr w3 [⟨(ZW (t / 3600).toNat).toArray⟩,⟨[58].toArray⟩,⟨(ZW (t%3600 / 60).toNat).toArray⟩,⟨[58].toArray⟩,⟨(ZW (t%60).toNat).toArray⟩] _ 5 rfl rfl (ZA t.toNat) (by
   rw[Pi];unfold ZA;rw[show(t / 3600).toNat=t.toNat / 3600 by omega,show(t%3600 / 60).toNat=t.toNat / 60%60 by omega,show(t%60).toNat=t.toNat%60 by omega];rfl) (by show 8<=1000;omega) ω).mono ?_
  rintro e w4 ⟨rfl,b4⟩;go_wp2;go_ret2;exact⟨rfl,qF (qF (qF b1 b2) b3) b4⟩
 rw[U5 h,qAF]at H';obtain⟨rfl,rfl⟩:=H';clear H;have HN:=qA h;clear h;go_enter func150,ntmps150
 go_wp2_with fail;refine(oz t HN.o _).mono ?_;rintro e w1 ⟨rfl,rfl⟩;go_wp2;go_ret2;exact⟨rfl,qB _⟩
theorem qw (s:Φ) (k:Nat) (h:k<s.size):s.data.toList[k]'η=s[k]'h:=by simp;rfl
theorem VF {c:UInt8} (h:qV c=false):(c.toNat:Int)<48∨57<(c.toNat:Int):=by
 have: ¬ (48<=c.toNat/\c.toNat<=57):=by rw[<-jg,h];simp
 omega
theorem Vh (q:Nat->UInt8->Bool) (s:Φ): ∃ p:Nat,p<=s.size/\(∀ k (h:k<s.size),k<p->q k (s[k]'h)=true)/\ ∀ h:p<s.size,q p (s[p]'h)=false:=by
 suffices H: ∀ n,n<=s.size->(∀ k (h:k<s.size),k<s.size-n->q k (s[k]'h)=true)-> ∃ p:Nat,p<=s.size/\(∀ k (h:k<s.size),k<p->q k (s[k]'h)=true)/\ ∀ h:p<s.size,q p (s[p]'h)=false from
  H s.size (U3 _) (λk h hk=>ω)
 intro n;induction n with
 |zero=>intro _ h;exact⟨s.size,U3 _,λk hk _=>h k hk ω,λh=>absurd h ω⟩
 |succ n ih=>
  intro hn h;by_cases hd:q (s.size-(n+1)) (s[s.size-(n+1)]'ω)=true
  ·
   refine ih ω λk hk hlt=>?_
   by_cases e:k=s.size-(n+1)
   · subst e;exact hd
   exact h k hk ω
  exact⟨s.size-(n+1),ω,h,λ_=>by simpa using hd⟩
def Qo (i:Nat) (c:UInt8):Bool:=if i=2∨i=5 then c==58 else qV c
def AV (s:Φ):Prop:=s.size=8/\ ∀ i (h:i<s.size),Qo i (s[i]'h)=true
theorem nY {i:Nat} {c:UInt8} (h:Qo i c=true) (hi:i=2∨i=5):(c.toNat:Int)=58:=by
 unfold Qo at h;rw[U6 hi]at h;have:c=58:=η
 rw[this];rfl
theorem Gp {i:Nat} {c:UInt8} (h:Qo i c=true) (hi: ¬ (i=2∨i=5)):qV c=true:=by
 unfold Qo at h;rwa [U5 hi]at h
theorem bU {i:Nat} {c:UInt8} (h:Qo i c=false) (hi:i=2∨i=5): ¬ (c.toNat:Int)=58:=by
 unfold Qo at h;rw[U6 hi]at h;intro k;have:c=58:=UInt8.toNat.inj (by simpa using(by omega:c.toNat=58));rw[this]at h;simp at h
theorem Bv {i:Nat} {c:UInt8} (h:Qo i c=false) (hi: ¬ (i=2∨i=5)):qV c=false:=by
 unfold Qo at h;rwa [U5 hi]at h
theorem Nq (pos:Nat):(((pos:Int)==2)=true/\(pos=2∨pos=5))∨(((pos:Int)==2)=false/\((pos:Int)==5)=true/\(pos=2∨pos=5))∨(((pos:Int)==2)=false/\((pos:Int)==5)=false/\ ¬ (pos=2∨pos=5)):=by
 by_cases h2:pos=2
 ·
  subst h2;exact .inl ⟨rfl,.inl rfl⟩
 by_cases h5:pos=5
 ·
  subst h5;exact .inr (.inl ⟨rfl,rfl,.inr rfl⟩)
 exact .inr (.inr ⟨τ,τ,ω⟩)
theorem aK (s:Φ) (b:Bool) (H:Hid ((AV s/\b=true)∨(¬ AV s/\b=false))) (w:World):
  Calls prog 245 #[s] w λe w'=>e=.returned (b:Z)/\Bl w w':=by
 by_cases h8:(s.size:Int)=8
 ·
  obtain⟨p,hp,hd,hn⟩:=Vh Qo s;have HD:=qA hd;have HN:=qA hn;clear hd hn;have hs1:8<=s.size:=ω
  have hs2:s.size<=8:=ω
  go_enter func245,ntmps245
  go_wp2;go_loopw [3,4] (λ_ _ w'=> ∃ pos:Nat,pos<=p/\w'=w.iter s pos) (λ_ _ w'=>s.size-w'.iterPos w.heap.size)
  case atStart=>exact⟨0,qAD _,rfl⟩
  obtain⟨pos,hpos,rfl⟩:=hrel;by_cases h1:pos<p
  ·
   have hps:pos<s.size:=ω
   have hok:=HD.o pos hps h1;rcases Nq pos with⟨h2,hi⟩|⟨h2,h3,hi⟩|⟨h2,h3,hi⟩
   ·
    have hb:=nY hok hi;clear hi;have hnx: ∀ ty,(Instr.next ((w.heap.size,0):Z) true ty).run prog (w.iter s pos)=_:=λty=>run_next_ascii w s pos ty hps ω
    clear hok;go_wp2;go_roundw;case rel=>exact⟨pos+1,ω,rfl⟩
    simp;omega
   ·
    have hb:=nY hok hi;clear hi;have hnx: ∀ ty,(Instr.next ((w.heap.size,0):Z) true ty).run prog (w.iter s pos)=_:=λty=>run_next_ascii w s pos ty hps ω
    clear hok;go_wp2;go_roundw;case rel=>exact⟨pos+1,ω,rfl⟩
    simp;omega
   have hb:=wV (Gp hok hi);clear hi;have hnx: ∀ ty,(Instr.next ((w.heap.size,0):Z) true ty).run prog (w.iter s pos)=_:=λty=>run_next_ascii w s pos ty hps ω
   clear hok;go_wp2;go_roundw;case rel=>exact⟨pos+1,ω,rfl⟩
   simp;omega
  obtain rfl:pos=p:=ω
  by_cases h2:pos<s.size
  ·
   have hbad:=HN.o h2;have HB:Hid (b=false):=by
    rcases H.o with⟨hS,_⟩|⟨_,hb⟩
    ·
     have:=hS.2 pos h2;rw[hbad]at this;simp at this
    exact hb
   rcases(show(((pos:Int)==2)=true/\ ¬ ((s[pos]'h2).toNat:Int)=58)∨(((pos:Int)==2)=false/\((pos:Int)==5)=true/\ ¬ ((s[pos]'h2).toNat:Int)=58)∨(((pos:Int)==2)=false/\((pos:Int)==5)=false/\(((s[pos]'h2).toNat:Int)<48∨57<((s[pos]'h2).toNat:Int))) by
    rcases Nq pos with⟨g2,hi⟩|⟨g2,g3,hi⟩|⟨g2,g3,hi⟩
    · exact .inl ⟨g2,bU hbad hi⟩
    · exact .inr (.inl ⟨g2,g3,bU hbad hi⟩)
    exact .inr (.inr ⟨g2,g3,VF (Bv hbad hi)⟩))with⟨g2,g4⟩|⟨g2,g3,g4⟩|⟨g2,g3,g4|g4⟩
   all_goals
    clear hbad;by_cases h5:(s[pos]'h2).toNat<128
    ·
     have hnx: ∀ ty,(Instr.next ((w.heap.size,0):Z) true ty).run prog (w.iter s pos)=_:=λty=>run_next_ascii w s pos ty h2 h5
     go_wp2;go_ret;exact⟨qO HB.o.symm,yT (qB _) _ _⟩
    have hnx: ∀ ty,(Instr.next ((w.heap.size,0):Z) true ty).run prog (w.iter s pos)=_:=λty=>run_next_any w s pos ty h2
    have hh:=decode_high s pos h2 ω;go_wp2;all_goals
     go_ret;exact⟨qO HB.o.symm,yT (qB _) _ _⟩
  have hnx: ∀ ty,(Instr.next ((w.heap.size,0):Z) true ty).run prog (w.iter s pos)=_:=λty=>run_next_end w s pos ty h2
  have HB:Hid (b=true):=by
   rcases H.o with⟨_,hb⟩|⟨hS,_⟩
   · exact hb
   exact absurd ⟨ω,λi hi=>HD.o i hi ω⟩ hS
  go_wp2;go_ret;exact⟨qO HB.o.symm,yT (qB _) _ _⟩
 have HB:Hid (b=false):=by
  rcases H.o with⟨hS,_⟩|⟨_,hb⟩
  · exact absurd (by rw[hS.1];rfl) h8
  exact hb
 go_enter func245,ntmps245
 go_wp2;go_ret;exact⟨qO HB.o.symm,qB _⟩
theorem KI (s:Φ) (z:Int) (i:Nat) (hz:z=(i:Int)) (hi:i<s.size) (W:World):
  (Instr.index 9 (s:Z) (z:Z)).run prog W=.ok (.int .u8 ((s[i]'hi).toNat:Int)) W:=by
 subst hz;rw[run_index_string W 9 s .i64 _ underlying9,dif_pos ⟨ω,ω⟩];rfl
theorem Z5 (s:Φ) (a b:UInt8) (hs:Hid (s.data.toList=[a,b])) (ha:qV a=true) (hb:qV b=true) (w:World):
  Calls prog 247 #[s] w λe w'=>e=.returned ((wH a b):Z)/\ ∃ m,w'=w.drewN m:=by
 have hsz:s.size=2:=by
  have:s.data.toList.length=s.size:=σ
  rw[hs.o]at this;simpa using this.symm
 have h0:0<s.size:=ω
 have h1:1<s.size:=ω
 have e0:s[0]'h0=a:=by
  rw[<-qw s 0 h0];simp[hs.o]
 have e1:s[1]'h1=b:=by
  rw[<-qw s 1 h1];simp[hs.o]
 have ba:=wV ha;have bb:=wV hb;rw[<-e0]at ba;rw[<-e1]at bb;have HP:=qA (show wH a b=(10:Int)*(((s[0]'h0).toNat:Int)-(48:Int))+(((s[1]'h1).toNat:Int)-48) by rw[e0,e1];rfl);clear e0 e1 hsz ha hb;have E1:=qA (IntWalk.u8_in (((s[0]'h0).toNat:Int)-48) ω);have E2:=qA (IntWalk.i64_in (((s[0]'h0).toNat:Int)-48) ω);have E3:=qA (IntWalk.i64_in ((10:Int)*(((s[0]'h0).toNat:Int)-(48:Int))) ω);have E4:=qA (IntWalk.u8_in (((s[1]'h1).toNat:Int)-48) ω);have E5:=qA (IntWalk.i64_in (((s[1]'h1).toNat:Int)-48) ω);have E6:=qA (IntWalk.i64_in ((10:Int)*(((s[0]'h0).toNat:Int)-(48:Int))+(((s[1]'h1).toNat:Int)-48)) ω);go_enter func247,ntmps247
 go_wp2;have e1:=E1.o;have e2:=E2.o;have e3:=E3.o;have e4:=E4.o;have e5:=E5.o;have e6:=E6.o;have e7:=λW=>KI s 0 0 rfl h0 W
 have e8:=λW=>KI s 1 1 rfl h1 W
 go_quiet (fail)
 clear e1 e2 e3 e4 e5 e6 e7 e8;go_wp2;go_ret;exact⟨qR (by rw[HP.o]),nq,rfl⟩
theorem P5 {l:Ψ} (h:l.length=8): ∃ a b x c d y e f,l=[a,b,x,c,d,y,e,f]:=by
 match l,h with
 |[a,b,x,c,d,y,e,f],_=>exact⟨_,_,_,_,_,_,_,_,rfl⟩
theorem aJ (s:Φ):AV s↔ ∃ a b c d e f:UInt8,s.data.toList=[a,b,58,c,d,58,e,f]/\qV a=true/\qV b=true/\qV c=true/\qV d=true/\qV e=true/\qV f=true:=by
 have hlen:s.data.toList.length=s.size:=σ
 constructor
 ·
  rintro⟨h8,h⟩;obtain⟨a,b,x,c,d,y,e,f,hl⟩:=P5 (l:=s.data.toList) ω;have g: ∀ i (hi:i<s.size),Qo i (s.data.toList[i]'ω)=true:=λi hi=>by rw[qw s i hi];exact h i hi
  have g0:=g 0 ω;have g1:=g 1 ω;have g2:=g 2 ω;have g3:=g 3 ω;have g4:=g 4 ω;have g5:=g 5 ω;have g6:=g 6 ω;have g7:=g 7 ω;simp only[hl,List.getElem_cons_zero,List.getElem_cons_succ]at g0 g1 g2 g3 g4 g5 g6 g7;obtain rfl:x=58:=by simpa[Qo]using g2
  obtain rfl:y=58:=by simpa[Qo]using g5
  exact⟨a,b,c,d,e,f,hl,by simpa[Qo]using g0,by simpa[Qo]using g1,by simpa[Qo]using g3,by simpa[Qo]using g4,by simpa[Qo]using g6,by simpa[Qo]using g7⟩
 rintro⟨a,b,c,d,e,f,hl,ha,hb,hc,hd,he,hf⟩;have h8:s.size=8:=by rw[<-hlen,hl];rfl
 refine⟨h8,λi hi=>?_⟩;rw[<-qw s i hi];rw[h8]at hi;simp only[hl];match i,hi with
 |0,_=>simpa[Qo]using ha
 |1,_=>simpa[Qo]using hb
 |2,_=>rfl
 |3,_=>simpa[Qo]using hc
 |4,_=>simpa[Qo]using hd
 |5,_=>rfl
 |6,_=>simpa[Qo]using he
 |7,_=>simpa[Qo]using hf
theorem yC (s:Φ) (i j:Nat):(s.extract i j).data.toList=(s.data.toList.drop i).take (j-i):=by rw[Lib.extract_data]
theorem iC (s:Φ) (n e:Int) (H:Time s.data.toList n e) (w:World):
  Calls prog 189 #[s] w λr w'=>r=.returned (.tuple #[n,e])/\Bl w w':=by
 generalize hl:s.data.toList=l at H
 have key: ∀ (a b c d e f:UInt8) (n:Int) (ok:Bool),s.data.toList=[a,b,58,c,d,58,e,f]->qV a=true->qV b=true->qV c=true->qV d=true->qV e=true->qV f=true->join (wH a b) (wH c d) (wH e f)=(n,ok)->
   Calls prog 189 #[s] w λr w'=>r=.returned (.tuple #[n,.int .i64 (if ok then 0 else 10)])/\Bl w w':=by
  intro a b c d e f n ok hl ha hb hc hd he hf hj;have HS:=qA ((aJ s).2 ⟨a,b,c,d,e,f,hl,ha,hb,hc,hd,he,hf⟩);have h8:s.size=8:=HS.o.1;have hs1:8<=s.size:=ω
  have hs2:s.size<=8:=ω
  have H1:Hid ((s.extract 0 2).data.toList=[a,b]):=by show _=_;rw[yC,hl];rfl
  have H2:Hid ((s.extract 3 5).data.toList=[c,d]):=by show _=_;rw[yC,hl];rfl
  have H3:Hid ((s.extract 6 s.size).data.toList=[e,f]):=by show _=_;rw[yC,hl,h8];rfl
  have HJ:=qA hj;have D:=qA (And.intro ha (And.intro hb (And.intro hc (And.intro hd (And.intro he hf)))));clear hl hj ha hb hc hd he hf h8;cases ok with
  |true=>
   go_enter func189,ntmps189
   go_wp2_with fail;refine(aK s true (.inl ⟨HS.o,rfl⟩) _).mono ?_;rintro e w1 ⟨rfl,b1⟩;go_wp2;have i2:(2:Int)<=(s.size:Int):=ω
   have i5:(5:Int)<=(s.size:Int):=ω
   have i6:(6:Int)<=(s.size:Int):=ω
   go_quiet ((first
    |(go_at_call 247;with_reducible exact Calls.quiet_of (Z5 _ _ _ H1 D.o.1 D.o.2.1 _))
    |(go_at_call 247;with_reducible exact Calls.quiet_of (Z5 _ _ _ H2 D.o.2.2.1 D.o.2.2.2.1 _))
    |(go_at_call 247;with_reducible exact Calls.quiet_of (Z5 _ _ _ H3 D.o.2.2.2.2.1 D.o.2.2.2.2.2 _))
    |(go_at_call 246;with_reducible exact Calls.quiet_of_same ((gZ _ _ _ _ _ HJ _).mono λ_ _ ⟨he,hw⟩=>⟨he,hw.symm⟩))))
   go_wp2;go_ret2;exact⟨rfl,qM b1 _⟩
  |false=>
   obtain⟨rfl,_⟩:=BM HJ.o;go_enter func189,ntmps189
   go_wp2_with fail;refine(aK s true (.inl ⟨HS.o,rfl⟩) _).mono ?_;rintro e w1 ⟨rfl,b1⟩;go_wp2;have i2:(2:Int)<=(s.size:Int):=ω
   have i5:(5:Int)<=(s.size:Int):=ω
   have i6:(6:Int)<=(s.size:Int):=ω
   go_quiet ((first
    |(go_at_call 247;with_reducible exact Calls.quiet_of (Z5 _ _ _ H1 D.o.1 D.o.2.1 _))
    |(go_at_call 247;with_reducible exact Calls.quiet_of (Z5 _ _ _ H2 D.o.2.2.1 D.o.2.2.2.1 _))
    |(go_at_call 247;with_reducible exact Calls.quiet_of (Z5 _ _ _ H3 D.o.2.2.2.2.1 D.o.2.2.2.2.2 _))
    |(go_at_call 246;with_reducible exact Calls.quiet_of_same ((gZ _ _ _ _ _ HJ _).mono λ_ _ ⟨he,hw⟩=>⟨he,hw.symm⟩))))
   go_wp2;go_ret2;exact⟨rfl,qM b1 _⟩
 cases H with
 |bad h=>
  have HS:=qA (show ¬ AV s by rw[aJ,hl];exact h);clear h hl key;go_enter func189,ntmps189
  go_wp2_with fail;refine(aK s false (.inr ⟨HS.o,rfl⟩) _).mono ?_;rintro e w1 ⟨rfl,b1⟩;go_wp2;go_ret2;exact⟨rfl,b1⟩
 |out ha hb hc hd he hf h=>exact key _ _ _ _ _ _ _ _ hl ha hb hc hd he hf h
 |ok _ ha hb hc hd he hf h=>exact key _ _ _ _ _ _ _ _ hl ha hb hc hd he hf h
theorem Ag (c:UInt8) (b:Bool) (h:Hid (qV c=b)) (w:World):Calls prog 257 #[.int .u8 (c.toNat:Int)] w λe w'=>e=.returned (b:Z)/\w=w':=by
 cases b with
 |true=>
  obtain⟨h0,h1⟩:=wV h.o;go_enter func257,ntmps257
  go_wp2;go_ret;exact⟨qO σ,rfl⟩
 |false=>
  rcases VF h.o with h0|h0
  ·
   go_enter func257,ntmps257
   go_wp2;go_ret;exact⟨rfl,rfl⟩
  have h1:(48:Int)<=(c.toNat:Int):=ω
  go_enter func257,ntmps257
  go_wp2;go_ret;exact⟨qO τ,rfl⟩
end Go.Proofs.YtakedkcjplfgeaaGreatDoor.Ck
set_option maxRecDepth 1000000
set_option maxHeartbeats 32000000
namespace Go.Proofs.YtakedkcjplfgeaaGreatDoor.Ck
open Go.RowKit
open Num Clk
def Jw (w:World) (b:Nat) (xs:List Int):Prop:= ∀ j,j<xs.length->w.cell? ⟨b,j,none⟩=some (.int .u8 (xs.getD j 0))/\w.frozen? ⟨b,j,none⟩=false
theorem Jw.set {w:World} {b:Nat} {xs:List Int} (h:Jw w b xs) (i:Nat) (hi:i<xs.length) (v:Int):Jw (w.setCell (b,i) (.int .u8 v)) b (xs.set i v):=by
 intro j hj;simp only[List.length_set]at hj;obtain⟨hc,hf⟩:=h j hj;by_cases e:j=i
 ·
  subst e;refine⟨?_,by rw[World.frozen?_setCell];exact hf⟩;rw[World.cell?_setCell_same (h:=hc)];simp[List.getD,hi]
 refine⟨?_,by rw[World.frozen?_setCell];exact hf⟩;rw[World.cell?_setCell_other (h:=by intro k;exact e (by simpa using k.symm)),hc];simp[List.getD,Ne.symm e]
theorem Yw (k:Nat) (xs:List Int) (h:k<xs.length) (v:Int):(xs.set k v).drop k=v::xs.drop (k+1):=by
 induction xs generalizing k with
 |nil=>simp at h
 |cons a t ih=>
  cases k with
  |zero=>simp
  |succ k=>simpa using ih k η
theorem xn (w:World) (xs:List Int) (c:Array Value) (hc:c=(xs.map (Value.int .u8)).toArray) (T:TypeId):Jw (w.alloc (.cells c T)) w.heap.size xs:=by
 intro j hj;subst hc;refine⟨?_, ?_⟩
 ·
  rw[Uy (hn:=rfl)];simp[List.getD,hj]
 simp[go_sem]
theorem yQ (l:Ψ):strOfNums (l.map (λc=>(c.toNat:Int)))=⟨l.toArray⟩:=by
 unfold strOfNums;rw[List.map_map];congr 2
 have:((λn:Int=>UInt8.ofNat n.toNat) ∘ λc:UInt8=>(c.toNat:Int))=id:=by
  funext c
  simp
 rw[this,List.map_id]
theorem Ws (b:Nat) (z:Int) (k:Nat) (hz:z=(k:Int)) (hk:k<20) (W:World):
  (Instr.sliceAt 188 (.pointer (some ⟨b,0,none⟩)) (some (.int .i64 z)) none none).run prog W= .ok (.slice (some ⟨b,k,none⟩) (20-k) (20-k)) W:=by
 subst hz;have h20:prog.arrayLen 188=20:=κ
 have hs:(sizeOf (prog.elem 188)).run prog W= .ok 1 W:=κ
 rw[run_sliceAt_array_l (P:=prog) W 188 ⟨b,0,none⟩ κ .i64 k ω (by rw[h20];omega),hs,h20];have: ¬ 20=k:=ω
 simp[Result.andThen,slicedAt,this,Addr.add]
 intro h;omega
theorem xQ (m:Nat):(((UInt8.ofNat (48+m%10)).toNat:Nat):Int)=48+(m:Int)%10:=by
 rw[zi (m%10) ω];omega
theorem Vd (N:Nat) (hN:N<=9223372036854775807) (w:World):Calls prog 216 #[N] w λe w'=>e=.returned (qP (qL N))/\Bl w w':=by
 have HL:=qA (kL N ω);go_enter func216,ntmps216
 go_wp2;go_loopw [0,4] (λn at_ wr=> ∃ (i m:Nat) (xs:List Int) (ds:Ψ),at_=i/\n=m/\m<=N/\i+ds.length=20/\Hid (qL N=qL m++ds)/\Hid (xs.length=20)/\Hid (xs.drop i=ds.map (λc=>(c.toNat:Int)))/\Hid (Jw wr w.heap.size xs)/\Bl w wr) (λn _ _=>(intOf n).toNat)
 case atStart=>exact⟨20,N,List.replicate 20 0,[],rfl,rfl,U3 _,rfl,by show _=_;simp,rfl,rfl,xn w _ _ rfl _,qE (qB _) _⟩
 obtain⟨i,m,xs,ds,rfl,rfl,hm,hi,HD,HX,HDR,HROW,hb⟩:=hrel;have hi1:1<=i:=by
  have h1:=HL.o;have h2:=YX m;rw[HD.o,U1]at h1;omega
 have hi2:i<=20:=ω
 obtain⟨hc1,hf1⟩:=HROW.o (i-1) (by rw[HX.o];omega);have HROW1:=qA (HROW.o.set (i-1) (by rw[HX.o];omega) (48+(m:Int)%10));have HDR1:=qA (show(xs.set (i-1) (48+(m:Int)%10)).drop (i-1)=(UInt8.ofNat (48+m%10)::ds).map (λc=>(c.toNat:Int)) by
  rw[Yw (i-1) xs (by rw[HX.o];omega),show i-1+1=i by omega,HDR.o,List.map_cons,xQ])
 have HII:=qA hi;clear hi;by_cases h9:9<m
 ·
  go_wp2;go_roundw;case rel=>exact⟨i-1,m / 10,_,UInt8.ofNat (48+m%10)::ds,by go_num,by go_num,ω,by have:=HII.o;simp;omega,by show _=_;rw[HD.o,jC ω];simp,by show _=_;rw[List.length_set];exact HX.o,HDR1,HROW1,zF hb (U3 _) _⟩
  simp[intOf];omega
 have hsl:=λW=>Ws w.heap.size ((i:Int)-1) (i-1) ω ω W
 have hdig:qL N=UInt8.ofNat (48+m%10)::ds:=by rw[HD.o,zD ω,Nat.mod_eq_of_lt ω];rfl
 have hcv:=run_convert_bytes_arg (P:=prog) (wr.setCell (w.heap.size,i-1) (.int .u8 (48+(m:Int)%10))) 140 5 underlying140 underlying5 w.heap.size (i-1) (20-(i-1)) (20-(i-1))
  ((qL N).map (λc=>(c.toNat:Int))) (by rw[hdig,<-HDR1.o];simp[HX.o]) (by
   intro j hj;have:=HROW1.o (i-1+j) (by rw[List.length_set,HX.o];omega);rw[this.1,hdig,<-HDR1.o];simp[List.getD]) 9 underlying9
 rw[yQ]at hcv;clear hdig;go_wp2;go_ret;exact⟨rfl,zF hb (U3 _) _⟩
theorem ZN (N:Nat) (hN:N<=9223372036854775807) (w:World):Calls prog 225 #[N] w λe w'=>e=.returned (qP (qL N))/\Bl w w':=by
 have HL:=qA (kL N ω);have hcv:=Na;go_enter func225,ntmps225
 go_wp2;go_loopw [0,3] (λn s wr=> ∃ (m:Nat) (x:Ψ),m<=N/\n=m/\s=qP x/\Hid (qL N=Jq m++x)/\Bl w wr) (λn _ _=>(intOf n).toNat)
 case atStart=>exact⟨N,[UInt8.ofNat (48+N%10)],U3 _,rfl,rfl,vX N,qE (qB _) _⟩
 obtain⟨m,x,hm,rfl,rfl,HX,hb⟩:=hrel;have hxl:x.length<=19:=by
  have h1:=HL.o;rw[HX.o,U1]at h1;omega
 by_cases h9:10<=m
 ·
  go_wp2;go_roundw;case rel=>exact⟨m / 10,UInt8.ofNat (48+m / 10%10)::x,ω,by go_num,by
   apply congrArg Value.string
   apply ByteArray.ext
   simp,by
   show _=_
   rw[HX.o];unfold Jq;rw[U6 ω];have:=vX (m / 10);unfold Jq at this;rw[this];simp,qE hb _⟩
  simp[intOf];omega
 have HE:=qA (show qL N=x by rw[HX.o];unfold Jq;rw[U5 ω];rfl);go_wp2;go_ret;exact⟨VL (by rw[HE.o]),hb⟩
def kJ (n:Nat):Ψ:=
 if 3600<=n then qL (n / 3600)++104::(ZW (n / 60%60)++109::(ZW (n%60)++[115]))
 else if 60<=n then qL (n / 60)++109::(ZW (n%60)++[115])else qL n++[115]
def gW (n:Int):Ψ×Int:=if 0<=n/\n<=359999 then(kJ n.toNat,0)else([],2)
theorem fZ (ls:List Ψ):YP (ls.map λl=>⟨l.toArray⟩)=ls.flatten:=by
 unfold YP;rw[List.map_map];congr 1
 have:((λs:Φ=>s.data.toList) ∘ λl:Ψ=>(⟨l.toArray⟩:Φ))=id:=by
  funext l
  simp
 rw[this,List.map_id]
theorem BO (n:Nat):(ZW n).length=2:=rfl
theorem OQ (n:Int) (l:Ψ) (e:Int) (H:Hid (gW n=(l,e))) (w:World):
  Calls prog 151 #[n] w λr w'=>r=.returned (.tuple #[qP l,e])/\Bl w w':=by
 have H':=H.o;unfold gW at H';by_cases h:0<=n/\n<=359999
 ·
  rw[U6 h,qAF]at H';obtain⟨rfl,rfl⟩:=H';clear H;obtain⟨h0,h1⟩:=h;obtain⟨N,rfl⟩:=Int.eq_ofNat_of_zero_le h0;rw[Int.toNat_natCast];by_cases hh:(3600:Int)<=(N:Int)
  ·
   have ht:=kL (N / 3600) ω;have HT:=qA (show kJ N=[qL (N / 3600),[104],ZW (N / 60%60),[109],ZW (N%60),[115]].flatten by unfold kJ;rw[U6 ω];simp);go_enter func151,ntmps151
   go_wp2_with fail;refine(Vd (N / 3600) ω _).mono ?_;rintro e w1 ⟨rfl,b1⟩;go_wp2_with fail;refine(aY _ ω ω _).mono ?_;rintro e w2 ⟨rfl,b2⟩;go_wp2_with fail;refine(aY _ ω ω _).mono ?_;rintro e w3 ⟨rfl,b3⟩;go_wp2_with fail;refine(Yr w3 ([qL (N / 3600),[104],ZW ((N:Int)%3600 / 60).toNat,[109],ZW ((N:Int)%60).toNat,[115]].map λl=>⟨l.toArray⟩) _ 6 rfl rfl (kJ N) (by
    rw[fZ,HT.o,show((N:Int)%3600 / 60).toNat=N / 60%60 by omega,show((N:Int)%60).toNat=N%60 by omega]) (by rw[HT.o];simp[BO];omega) ω).mono ?_
   rintro e w4 ⟨rfl,b4⟩;go_wp2;go_ret2;exact⟨rfl,qF (qF (qF b1 b2) b3) b4⟩
  by_cases hm:(60:Int)<=(N:Int)
  ·
   have ht:=kL (N / 60) ω;have HT:=qA (show kJ N=[qL (N / 60),[109],ZW (N%60),[115]].flatten by unfold kJ;rw[U5 ω,U6 ω];simp);go_enter func151,ntmps151
   go_wp2_with fail;refine(Vd (N / 60) ω _).mono ?_;rintro e w1 ⟨rfl,b1⟩;go_wp2_with fail;refine(aY _ ω ω _).mono ?_;rintro e w3 ⟨rfl,b3⟩;go_wp2_with fail;refine(Yr w3 ([qL (N / 60),[109],ZW ((N:Int)%60).toNat,[115]].map λl=>⟨l.toArray⟩) _ 4 rfl rfl (kJ N) (by
    rw[fZ,HT.o,show((N:Int)%60).toNat=N%60 by omega]) (by rw[HT.o];simp[BO];omega) ω).mono ?_
   rintro e w4 ⟨rfl,b4⟩;go_wp2;go_ret2;exact⟨rfl,qF (qF b1 b3) b4⟩
  have ht:=kL N ω;have HT:=qA (show kJ N=[qL N,[115]].flatten by unfold kJ;rw[U5 ω,U5 ω];simp);go_enter func151,ntmps151
  go_wp2_with fail;refine(Vd N ω _).mono ?_;rintro e w1 ⟨rfl,b1⟩;go_wp2_with fail;refine(Yr w1 ([qL N,[115]].map λl=>⟨l.toArray⟩) _ 2 rfl rfl (kJ N) (by rw[fZ,HT.o]) (by rw[HT.o];simp;omega) ω).mono ?_;rintro e w4 ⟨rfl,b4⟩;go_wp2;go_ret2;exact⟨rfl,qF b1 b4⟩
 rw[U5 h,qAF]at H';obtain⟨rfl,rfl⟩:=H';clear H;by_cases h0:n<0
 ·
  clear h;go_enter func151,ntmps151
  go_wp2;go_ret2;exact⟨rfl,qB _⟩
 have h1:359999<n:=ω
 clear h;go_enter func151,ntmps151
 go_wp2;go_ret2;exact⟨rfl,qB _⟩
