/- Contracts, proved. Conditions: theirs. -/
import Derived.Test.YtakedkcjplfgeaaGreatDoorRows
import Derived.Test.YtakedkcjplfgeaaGreatDoorMPkPlain
import Derived.Test.YtakedkcjplfgeaaGreatDoorMPkBase
import Derived.WalkSpells
import Derived.WalkLawsBesides
import Derived.Lib.SmallJoins
set_option maxRecDepth 1000000
set_option maxHeartbeats 32000000
open Go.Proofs.Tryz
namespace Go.Proofs.YtakedkcjplfgeaaGreatDoor.Da
open Go.RowKit
open Num Clk
theorem qR {k:IntKind} {a b:Int} (h:a=b):Ending.returned (.int k a)=.returned (.int k b):=by rw[h]
theorem qO {a b:Bool} (h:a=b):Ending.returned (a:Z)=.returned (b:Z):=by rw[h]
theorem VL {a b:Φ} (h:a=b):Ending.returned (a:Z)=.returned (b:Z):=by rw[h]
theorem VK {a b:Φ} {x:Value} (h:a=b):Ending.returned (.tuple #[a,x])=.returned (.tuple #[b,x]):=by rw[h]
theorem wI {k:IntKind} {a b:Int} {x:Value} (h:a=b):Ending.returned (.tuple #[.int k a,x])=.returned (.tuple #[.int k b,x]):=by rw[h]
abbrev qP (l:Ψ):Value:=.string ⟨l.toArray⟩
theorem Na (W:World) (b:Nat) (x:Int) (h0:W.cell? (b,0)=some (.int .u8 x)):
  (convert 140 9 ((b,0,1,1):Z)).run prog W=.ok (.string ⟨#[UInt8.ofNat x.toNat]⟩) W:=
 run_convert_bytes_arg W 140 5 underlying140 underlying5 b 0 1 1 [x] rfl (by
  intro i hi
  match i,hi with
  |0,_=>simpa using h0) 9 underlying9
theorem lV (W:World) (b:Nat) (x y:Int) (h0:W.cell? (b,0)=some (.int .u8 x)) (h1:W.cell? (b,1)=some (.int .u8 y)):
  (convert 140 9 ((b,0,2,2):Z)).run prog W=.ok (.string ⟨#[UInt8.ofNat x.toNat,UInt8.ofNat y.toNat]⟩) W:=
 run_convert_bytes_arg W 140 5 underlying140 underlying5 b 0 2 2 [x,y] rfl (by
  intro i hi
  match i,hi with
  |0,_=>simpa using h0
  |1,_=>simpa using h1) 9 underlying9
def vW (t:Int):Bool:=decide (0<=t)&&decide (t<=172800)
theorem Jn (t:Int) (b:Bool) (h:Hid (vW t=b)) (w:World):Calls prog 265 #[t] w λe w'=>e=.returned (b:Z)/\w=w':=by
 by_cases h0:0<=t
 ·
  by_cases h1:t<=172800
  ·
   have HB:=qA (show b=true by rw[<-h.o];simp[vW,h0,h1]);go_enter func265,ntmps265
   go_wp2;go_ret;exact⟨qO (by rw[HB.o]),rfl⟩
  have HB:=qA (show b=false by rw[<-h.o];simp[vW,h1]);go_enter func265,ntmps265
  go_wp2;go_ret;exact⟨qO (by rw[HB.o]),rfl⟩
 have HB:=qA (show b=false by rw[<-h.o];simp[vW,h0]);go_enter func265,ntmps265
 go_wp2;go_ret;exact⟨qO (by rw[HB.o]),rfl⟩
theorem YO {t:Int} (h0:0<=t) (h1:t<=172800):Hid (vW t=true):=by show _=_;simp[vW,h0,h1]
theorem VS {t:Int} (h: ¬ (0<=t/\t<=172800)):Hid (vW t=false):=by
 show _=_
 by_cases h0:0<=t
 ·
  have: ¬ t<=172800:=λk=>h ⟨h0,k⟩
  simp[vW,this]
 simp[vW,h0]
theorem fC (t:Int) (h0:0<=t) (h1:t<=172800) (w:World):
  Calls prog 213 #[t] w λe w'=>e=.returned (.tuple #[.int .i64 (t / 3600),.int .i64 (t%3600 / 60),.int .i64 (t%60),true])/\w=w':=by
 go_enter func213,ntmps213
 go_wp2_with (go_at_call 265;refine(Jn _ true (YO h0 h1) _).mono ?_;rintro e w1 ⟨rfl,rfl⟩)
 refine bodyPost_ret (v:=.tuple #[.int .i64 (t / 3600),.int .i64 (t%3600 / 60),.int .i64 (t%60),true]) (by simp[results,results213,go_sem]) rfl ⟨rfl,rfl⟩
theorem oz (t:Int) (h: ¬ (0<=t/\t<=172800)) (w:World):
  Calls prog 213 #[t] w λe w'=>e=.returned (.tuple #["","","",false])/\w=w':=by
 have HV:=VS h;clear h;go_enter func213,ntmps213
 go_wp2_with (go_at_call 265;refine(Jn _ false HV _).mono ?_;rintro e w1 ⟨rfl,rfl⟩)
 refine bodyPost_ret (v:=.tuple #["","","",false]) (by simp[results,results213,go_sem]) rfl ⟨rfl,rfl⟩
theorem aY (n:Int) (h0:0<=n) (h1:n<=99) (w:World):Calls prog 215 #[n] w λe w'=>e=.returned (qP (ZW n.toNat))/\Bl w w':=by
 have hcv:=lV;have HT:Hid ((⟨#[UInt8.ofNat (48+n / 10).toNat,UInt8.ofNat (48+n%10).toNat]⟩:Φ)=⟨(ZW n.toNat).toArray⟩):=by
  show _=_
  unfold ZW;rw[show(48+n / 10).toNat=48+n.toNat / 10 by omega,show(48+n%10).toNat=48+n.toNat%10 by omega]
 go_enter func215,ntmps215
 go_wp2;go_ret;exact⟨VL HT.o,qE (qB _) _⟩
def YP (ss:List Φ):Ψ:=(ss.map λs=>s.data.toList).flatten
theorem lU (ss:List Φ) (k:Nat) (h:k<ss.length):YP (ss.take (k+1))=YP (ss.take k)++(ss.getD k ByteArray.empty).data.toList:=by
 have e:ss.getD k ByteArray.empty=ss[k]:=by simp[List.getD,h]
 unfold YP;rw[e,List.take_succ_eq_append_getElem h,List.map_append,List.flatten_append];simp only[List.map_cons,List.map_nil,List.flatten_cons,List.flatten_nil,List.append_nil]
theorem Vy (ss:List Φ) (k:Nat):(YP (ss.take k)).length<=(YP ss).length:=by
 have:YP ss=YP (ss.take k)++YP (ss.drop k):=by
  unfold YP;rw[<-List.flatten_append,<-List.map_append,List.take_append_drop]
 rw[this,U1];omega
theorem dY (w:World) (ss:List Φ) (c:Array Value) (T:TypeId) (h:c=(ss.map Value.string).toArray): ∀ i,i<ss.length->(w.alloc (.cells c T)).cell? ⟨w.heap.size,i,none⟩=some (.string (ss.getD i ByteArray.empty)):=by
 intro i hi;subst h;rw[Uy (hn:=rfl)];simp[List.getD,hi]
theorem Pi (a b c d e:Ψ):YP [⟨a.toArray⟩,⟨b.toArray⟩,⟨c.toArray⟩,⟨d.toArray⟩,⟨e.toArray⟩]=a++(b++(c++(d++e))):=by simp[YP]
theorem qw (s:Φ) (k:Nat) (h:k<s.size):s.data.toList[k]'η=s[k]'h:=by simp;rfl
theorem KI (s:Φ) (z:Int) (i:Nat) (hz:z=(i:Int)) (hi:i<s.size) (W:World):
  (Instr.index 9 (s:Z) (z:Z)).run prog W=.ok (.int .u8 ((s[i]'hi).toNat:Int)) W:=by
 subst hz;rw[run_index_string W 9 s .i64 _ underlying9,dif_pos ⟨ω,ω⟩];rfl
theorem vk:(prog.info? 5).map (λi=>(i.zero,i.size,i.bytes))=some (some (.int .u8 0),1,1):=κ
open Dat
def QN (d:Int):Bool:=decide (0<=d)&&decide (d<=36524)
theorem sN {t:Int} (h0:0<=t) (h1:t<=36524):Hid (QN t=true):=by show _=_;simp[QN,h0,h1]
theorem CS {t:Int} (h: ¬ (0<=t/\t<=36524)):Hid (QN t=false):=by
 show _=_
 by_cases h0:0<=t
 ·
  have: ¬ t<=36524:=λk=>h ⟨h0,k⟩
  simp[QN,this]
 simp[QN,h0]
theorem Yy (t:Int):(0<=t/\t<=36524/\QN t=true)∨(t<0/\QN t=false)∨(0<=t/\36524<t/\QN t=false):=by
 unfold QN;by_cases h0:0<=t
 ·
  by_cases h1:t<=36524
  · exact .inl ⟨h0,h1,by simp[h0,h1]⟩
  exact .inr (.inr ⟨h0,ω,by simp[h0,h1]⟩)
 exact .inr (.inl ⟨ω,by simp[h0]⟩)
theorem JB (t:Int) (b:Bool) (h:Hid (QN t=b)) (w:World):Calls prog 121 #[t] w λe w'=>e=.returned (b:Z)/\w=w':=by
 rcases Yy t with⟨h0,h1,k⟩|⟨h0,k⟩|⟨h0,h1,k⟩
 all_goals
  have HB:=qA (k.symm.trans h.o).symm;clear k;go_enter func121,ntmps121
  go_wp2;go_ret;exact⟨qO (by have e:=HB.o;subst e;first|rfl|(simp;done)|(simp;omega)),rfl⟩
theorem Vq (t:Int) (b:Bool) (h:Hid (QN t=b)) (w:World):Calls prog 168 #[t] w λe w'=>e=.returned (b:Z)/\w=w':=by
 rcases Yy t with⟨h0,h1,k⟩|⟨h0,k⟩|⟨h0,h1,k⟩
 all_goals
  have HB:=qA (k.symm.trans h.o).symm;clear k;go_enter func168,ntmps168
  go_wp2;go_ret;exact⟨qO (by have e:=HB.o;subst e;first|rfl|(simp;done)|(simp;omega)),rfl⟩
def BL (y:Int):Bool:=decide (2000<=y)&&decide (y<=2099)
theorem Kz (t:Int):(2000<=t/\t<=2099/\BL t=true)∨(t<2000/\BL t=false)∨(2000<=t/\2099<t/\BL t=false):=by
 unfold BL;by_cases h0:2000<=t
 ·
  by_cases h1:t<=2099
  · exact .inl ⟨h0,h1,by simp[h0,h1]⟩
  exact .inr (.inr ⟨h0,ω,by simp[h0,h1]⟩)
 exact .inr (.inl ⟨ω,by simp[h0]⟩)
theorem YA (t:Int) (b:Bool) (h:Hid (BL t=b)) (w:World):Calls prog 287 #[t] w λe w'=>e=.returned (b:Z)/\w=w':=by
 rcases Kz t with⟨h0,h1,k⟩|⟨h0,k⟩|⟨h0,h1,k⟩
 all_goals
  have HB:=qA (k.symm.trans h.o).symm;clear k;go_enter func287,ntmps287
  go_wp2;go_ret;exact⟨qO (by have e:=HB.o;subst e;first|rfl|(simp;done)|(simp;omega)),rfl⟩
theorem Rk (y:Int) (h0:2000<=y) (h1:y<=2099):bits .and .i64 y 3=y%4:=by
 obtain⟨n,rfl⟩: ∃ n:Nat,y=n:=⟨y.toNat,ω⟩;have h2:n<2100:=ω
 have h3:2000<=n:=ω
 have key: ∀ k:Fin 100,bits .and .i64 ((2000+k.val:Nat):Int) 3=((2000+k.val:Nat):Int)%4:=ξ
 have:=key ⟨n-2000,ω⟩;simp only[show 2000+(n-2000)=n by omega]at this;exact this
theorem Xn {y:Int} (h:BL y=true):Js y=(y%4==0):=by
 unfold Js;unfold BL at h;rw[h];rfl
theorem dW {y:Int} (h:BL y=false):Js y=false:=by
 unfold Js;unfold BL at h;rw[h];rfl
theorem Ol (y:Int) (b:Bool) (h:Hid (Js y=b)) (w:World):Calls prog 284 #[y] w λe w'=>e=.returned (b:Z)/\w=w':=by
 rcases Kz y with⟨h0,h1,k⟩|⟨h0,k⟩|⟨h0,h1,k⟩
 ·
  have HI:=qA k;have HB:=qA ((Xn k).symm.trans h.o);have hand:=Rk y h0 h1;clear k h;go_enter func284,ntmps284
  go_wp2_with (go_at_call 287;refine(YA _ true HI _).mono ?_;rintro e w1 ⟨rfl,rfl⟩)
  go_ret;exact⟨qO HB.o,rfl⟩
 all_goals
  have HI:=qA k;have HB:=qA ((dW k).symm.trans h.o);clear k h;go_enter func284,ntmps284
  go_wp2_with (go_at_call 287;refine(YA _ false HI _).mono ?_;rintro e w1 ⟨rfl,rfl⟩)
  go_ret;exact⟨qO HB.o,rfl⟩
theorem MS (y:Int) (b:Bool) (h:Hid (Js y=b)) (w:World):Calls prog 285 #[y] w λe w'=>e=.returned (b:Z)/\w=w':=by
 rcases Kz y with⟨h0,h1,k⟩|⟨h0,k⟩|⟨h0,h1,k⟩
 ·
  have HB:=qA ((Xn k).symm.trans h.o);clear k h;go_enter func285,ntmps285
  go_wp2;go_ret;exact⟨qO HB.o,rfl⟩
 all_goals
  have HB:=qA ((dW k).symm.trans h.o);clear k h;go_enter func285,ntmps285
  go_wp2;go_ret;exact⟨qO HB.o,rfl⟩
abbrev lens (f:Int):Array Value:= #[.int .i64 31,f,.int .i64 31,.int .i64 30,.int .i64 31,.int .i64 30,.int .i64 31,.int .i64 31,.int .i64 30,.int .i64 31,.int .i64 30,.int .i64 31]
theorem GR (y:Int) (f:Int) (hf:f=jB y 2) (k:Nat) (h:k<12):(lens f)[k]? =some (.int .i64 (jB y (1+(k:Int)))):=by
 subst hf;match k,h with
 |0,_=>rfl
 |1,_=>rfl
 |2,_=>rfl
 |3,_=>rfl
 |4,_=>rfl
 |5,_=>rfl
 |6,_=>rfl
 |7,_=>rfl
 |8,_=>rfl
 |9,_=>rfl
 |10,_=>rfl
 |11,_=>rfl
theorem JG (y:Int) (h:BL y=true):(Js y=true/\jB y 2=29)∨(Js y=false/\jB y 2=28):=by
 rw[Xn h];unfold jB;by_cases hy:y%4=0
 · exact .inl ⟨by simp[hy],by simp[hy]⟩
 exact .inr ⟨by simp[hy],by simp[hy]⟩
theorem YC (y f:Int) (b:Bool) (h:Hid (Js y=b)) (hf:(b=true/\f=29)∨(b=false/\f=28)) (w:World):Calls prog 264 #[y] w λe w'=>e=.returned (.agg (lens f))/\Bl w w':=by
 rcases hf with⟨rfl,rfl⟩|⟨rfl,rfl⟩
 all_goals
  go_enter func264,ntmps264
  go_wp2_with (go_at_call 284;refine(Ol _ _ h _).mono ?_;rintro e w1 ⟨rfl,rfl⟩)
  exact bodyPost_ret (v:=.agg (lens _)) (by simp[results,results264,go_sem]) rfl ⟨rfl,qE (qE (qB _) _) _⟩
theorem GH (y f z:Int) (hf:f=jB y 2) (h0:0<=z) (h1:z<12) (W:World):
  (Instr.index 245 (.agg (lens f)) (z:Z)).run prog W=.ok (.int .i64 (jB y (1+z))) W:=by
 subst hf;rcases(show z=0∨z=1∨z=2∨z=3∨z=4∨z=5∨z=6∨z=7∨z=8∨z=9∨z=10∨z=11 by omega)with rfl|rfl|rfl|rfl|rfl|rfl|rfl|rfl|rfl|rfl|rfl|rfl
 all_goals kernel_rfl
theorem XO (y m:Int):((2000<=y/\y<=2099)/\(1<=m/\m<=12)/\Zz y m=(jB y m,true))∨
  ((BL y=false∨(BL y=true/\(m<1∨(1<=m/\12<m))))/\Zz y m=(0,false)):=by
 rcases Kz y with⟨h0,h1,k⟩|⟨h0,k⟩|⟨h0,h1,k⟩
 ·
  by_cases hm:1<=m/\m<=12
  · exact .inl ⟨⟨h0,h1⟩,hm,by unfold Zz;rw[U6 ⟨⟨h0,h1⟩,hm⟩]⟩
  exact .inr ⟨.inr ⟨k,ω⟩,by unfold Zz;rw[U5 (λh=>hm h.2)]⟩
 · exact .inr ⟨.inl k,by unfold Zz;rw[U5 ω]⟩
 exact .inr ⟨.inl k,by unfold Zz;rw[U5 ω]⟩
theorem Y7 {y:Int} (h0:2000<=y) (h1:y<=2099):BL y=true:=by simp[BL,h0,h1]
theorem FI (y m n:Int) (ok:Bool) (H:Hid (Zz y m=(n,ok))) (w:World):
  Calls prog 276 #[y,m] w λe w'=>e=.returned (.tuple #[n,ok])/\Bl w w':=by
 rcases XO y m with⟨⟨h0,h1⟩,⟨h2,h3⟩,k⟩|⟨hc,k⟩
 ·
  obtain⟨e1,rfl⟩:=qAE (k.symm.trans H.o);have HN:=qA e1;clear e1 k;have HI:=qA (Y7 h0 h1);have hix:=λW=>GH y (jB y 2) (m-1) rfl ω ω W
  rw[show 1+(m-1)=m by omega]at hix;rcases JG y HI.o with⟨a,b⟩|⟨a,b⟩
  all_goals
   have HA:=qA a;rw[b]at hix;clear a b;go_enter func276,ntmps276
   go_wp2_with (first
    |(go_at_call 287;refine(YA _ true HI _).mono ?_;rintro e w1 ⟨rfl,rfl⟩)
    |(go_at_call 264;refine(YC _ _ _ HA (by first|exact .inl ⟨rfl,rfl⟩|exact .inr ⟨rfl,rfl⟩) _).mono ?_;rintro e w1 ⟨rfl,b1⟩))
   go_ret2;exact⟨wI HN.o,b1⟩
 obtain⟨rfl,rfl⟩:=qAE (k.symm.trans H.o);clear k H;rcases hc with hc|⟨hc,hm|⟨hm,hm'⟩⟩
 all_goals
  have HI:=qA hc;clear hc;go_enter func276,ntmps276
  go_wp2_with (go_at_call 287;refine(YA _ _ HI _).mono ?_;rintro e w1 ⟨rfl,rfl⟩)
  go_ret2;exact⟨rfl,qB _⟩
theorem oJ (y m:Int):((2000<=y/\y<=2099)/\(1<=m/\m<=12)/\Zz y m=(jB y m,true))∨
  ((y<2000∨(2000<=y/\2099<y)∨(2000<=y/\y<=2099/\m<1)∨(2000<=y/\y<=2099/\1<=m/\12<m))/\Zz y m=(0,false)):=by
 unfold Zz;by_cases h:(2000<=y/\y<=2099)/\(1<=m/\m<=12)
 · exact .inl ⟨h.1,h.2,by rw[U6 h]⟩
 exact .inr ⟨ω,by rw[U5 h]⟩
theorem uD {y m:Int} (h:(m≠2/\m≠4/\m≠6/\m≠9/\m≠11)):jB y m=31:=by
 unfold jB;rw[U5 h.1,U5 ω]
theorem Bd (y m n:Int) (ok:Bool) (H:Hid (Zz y m=(n,ok))) (w:World):
  Calls prog 267 #[y,m] w λe w'=>e=.returned (.tuple #[n,ok])/\w=w':=by
 rcases oJ y m with⟨⟨h0,h1⟩,⟨h2,h3⟩,k⟩|⟨hc,k⟩
 ·
  obtain⟨e1,rfl⟩:=qAE (k.symm.trans H.o);clear k;have HI:=qA (Y7 h0 h1);by_cases hm:m=2
  ·
   subst hm;rcases JG y HI.o with⟨a,b⟩|⟨a,b⟩
   all_goals
    have HA:=qA a;rw[b]at e1;subst e1;clear a b;go_enter func267,ntmps267
    go_wp2_with (go_at_call 285;refine(MS _ _ HA _).mono ?_;rintro e w1 ⟨rfl,rfl⟩)
    go_ret2;exact⟨rfl,rfl⟩
  have hm2:(m==2)=false:=by rw[U0];exact hm
  by_cases h30:m=4∨m=6∨m=9∨m=11
  ·
   rcases h30 with rfl|rfl|rfl|rfl
   all_goals
    obtain rfl:n=30:=by rw[<-e1];simp[jB]
    clear e1;go_enter func267,ntmps267
    go_wp2;go_ret2;exact⟨rfl,rfl⟩
  obtain rfl:n=31:=by rw[<-e1,uD ω]
  have q4:(m==4)=false:=π
  have q6:(m==6)=false:=π
  have q9:(m==9)=false:=π
  have q11:(m==11)=false:=π
  clear e1 hm h30;go_enter func267,ntmps267
  go_wp2;go_ret2;exact⟨rfl,rfl⟩
 obtain⟨rfl,rfl⟩:=qAE (k.symm.trans H.o);clear k H;rcases hc with hc|⟨hc,hm⟩|⟨hc,hm,hm'⟩|⟨hc,hm,hm',hm''⟩
 all_goals
  go_enter func267,ntmps267
  go_wp2;go_ret2;exact⟨rfl,rfl⟩
theorem Fa (y m d:Int):((2000<=y/\y<=2099)/\(1<=m/\m<=12)/\(1<=d/\d<=jB y m))∨
  ((Zz y m=(0,false)∨ ∃ n,Zz y m=(n,true)/\(d<1∨(1<=d/\n<d)))/\jV y m d=(0,false)):=by
 rcases XO y m with⟨hy,hm,k⟩|⟨hc,k⟩
 ·
  by_cases hd:1<=d/\d<=jB y m
  · exact .inl ⟨hy,hm,hd⟩
  exact .inr ⟨.inr ⟨_,k,ω⟩,by unfold jV;rw[U5 (λh=>hd h.2.2)]⟩
 refine .inr ⟨.inl k, ?_⟩;unfold jV;rw[U5];rintro⟨hy,hm,_⟩;unfold Zz at k;rw[U6 ⟨hy,hm⟩]at k;simp at k
theorem lZ {y m:Int} (hy:2000<=y/\y<=2099) (hm:1<=m/\m<=12):Zz y m=(jB y m,true):=by
 unfold Zz;rw[U6 ⟨hy,hm⟩]
theorem OO {y m d:Int} (hy:2000<=y/\y<=2099) (hm:1<=m/\m<=12) (hd:1<=d/\d<=jB y m):jV y m d=(Zy (12*(y-2000)+m-1).toNat+d-1,true):=by
 unfold jV;rw[U6 ⟨hy,hm,hd⟩]
theorem PW (y m d r:Int) (hy:2000<=y/\y<=2099) (hm:1<=m/\m<=12) (hd:1<=d/\d<=jB y m) (HR:Hid (r=Zy (12*(y-2000)+m-1).toNat+d-1)) (w:World):
  Calls prog 255 #[y,m,d] w λe w'=>e=.returned (.tuple #[r,true])/\w=w':=by
 obtain⟨y0,y1⟩:=hy;obtain⟨m0,m1⟩:=hm;obtain⟨d0,d1⟩:=hd;have HD:Hid (Zz y m=(jB y m,true)):=lZ ⟨y0,y1⟩ ⟨m0,m1⟩;have hl:=QX y m;obtain⟨n,hn⟩:=ε (jB y m);rw[hn]at d1 HD hl;clear hn;obtain⟨l0,l1⟩:=hl;go_enter func255,ntmps255
 go_wp2_with (go_at_call 267;refine(Bd _ _ _ _ HD _).mono ?_;rintro e w1 ⟨rfl,rfl⟩)
 go_loop [10,11] (λs i=> ∃ k:Nat,(k:Int)<=12*(y-2000)+m-1/\i=k/\s=(Zy k)) (λ_ i=>(12*(y-2000)+m-1-intOf i).toNat)
 case atStart=>exact⟨0,τ,rfl,rfl⟩
 obtain⟨k,hk,rfl,rfl⟩:=hrel;have hc:=OB k ω;obtain⟨c0,c1⟩:=hc;by_cases hlt:(k:Int)<12*(y-2000)+m-1
 ·
  have HK:Hid (Zz (2000+(k:Int) / 12) (1+(k:Int)%12)=(jB (2000+(k:Int) / 12) (1+(k:Int)%12),true)):=Ir k ω;have HC:=qA (J5 k);have hb:=QX (2000+(k:Int) / 12) (1+(k:Int)%12);generalize jB (2000+(k:Int) / 12) (1+(k:Int)%12)=x at HK HC hb
  obtain⟨b0,b1⟩:=hb;go_wp2_with (go_at_call 267;refine(Bd _ _ _ _ HK _).mono ?_;rintro e w1 ⟨rfl,rfl⟩)
  go_round;case rel=>exact⟨k+1,ω,by go_num,by rw[HC.o]⟩
  simp[intOf];omega
 have HE:=qA (show Zy k+d-1=r by rw[HR.o,show(12*(y-2000)+m-1).toNat=k by omega]);go_wp2;go_ret2;exact⟨wI HE.o,rfl⟩
theorem ND (b:Nat) (h:Int) (h0:0<=h) (h1:h<=12) (W:World):
  (Instr.sliceAt 245 ((b,0):Z) none (some (h:Z)) none).run prog W=.ok ((b,0,h.toNat,12):Z) W:=by
 have e:prog.arrayLen 245=12:=κ
 rw[run_sliceAt_array_h W 245 _ κ .i64 h h0 (by rw[e];exact h1)];have s:(sizeOf (prog.elem 245)).run prog W=.ok 1 W:=κ
 rw[s,e];simp[Result.andThen,slicedAt,Addr.add]
theorem Fv (y m d r:Int) (hy:2000<=y/\y<=2099) (hm:1<=m/\m<=12) (hd:1<=d/\d<=jB y m) (HR:Hid (r=Zy (12*(y-2000)+m-1).toNat+d-1)) (w:World):
  Calls prog 244 #[y,m,d] w λe w'=>e=.returned (.tuple #[r,true])/\Bl w w':=by
 obtain⟨y0,y1⟩:=hy;obtain⟨m0,m1⟩:=hm;obtain⟨d0,d1⟩:=hd;have HD:Hid (Zz y m=(jB y m,true)):=lZ ⟨y0,y1⟩ ⟨m0,m1⟩;have hl:=QX y m;obtain⟨n,hn⟩:=ε (jB y m);rw[hn]at d1 HD hl;clear hn;obtain⟨l0,l1⟩:=hl;obtain⟨f,hf⟩: ∃ f,f=jB y 2:=⟨_,rfl⟩;obtain⟨b,hb,hbf⟩: ∃ b,Js y=b/\((b=true/\f=29)∨(b=false/\f=28)):=by
  rcases JG y (Y7 y0 y1)with⟨a,e⟩|⟨a,e⟩
  · exact⟨true,a,.inl ⟨rfl,by rw[hf,e]⟩⟩
  exact⟨false,a,.inr ⟨rfl,by rw[hf,e]⟩⟩
 have HL:=qA hb;have HF:=qA hf;have HBF:=qA hbf;clear hb hf hbf;have hsl:=λb W=>ND b (m-1) ω ω W
 go_enter func244,ntmps244
 go_wp2_with fail;refine(FI _ _ _ _ HD _).mono ?_;rintro e w1 ⟨rfl,b1⟩;go_wp2_with fail;refine(YC _ _ _ HL HBF.o _).mono ?_;rintro e w2 ⟨rfl,b2⟩;go_wp2_with fail;have hcell: ∀ k:Nat,k<12->(w2.alloc (.cells (lens f) 245)).cell? (w2.heap.size,k)=some (.int .i64 (jB y (1+(k:Int)))):=by
  intro k hk;rw[Uy (hn:=rfl)];exact GR y f HF.o k hk
 have HCell:=qA hcell;clear hcell;go_loop [11,49] (λs i=> ∃ k:Nat,(k:Int)<=m-1/\i=k/\s=.int .i64 (365*(y-2000)+(y-2000+3) / 4+d-1+cj (QQ y) k)) (λ_ i=>(12-intOf i).toNat)
 case atStart=>exact⟨0,τ,rfl,by simp[cj]⟩
 obtain⟨k,hk,rfl,rfl⟩:=hrel;have hc:=Eu y k ω;obtain⟨c0,c1⟩:=hc;by_cases hlt:(k:Int)<((m-1).toNat:Int)
 ·
  have hcx:=HCell.o k ω;have HC:=qA (WY y k ω);have hb:=QX y (1+(k:Int));generalize jB y (1+(k:Int))=x at hcx HC hb
  obtain⟨b0,b1⟩:=hb;go_wp2;go_round;case rel=>exact⟨k+1,ω,by go_num,by rw[HC.o];go_num⟩
  simp[intOf];omega
 have HE:=qA (show 365*(y-2000)+(y-2000+3) / 4+d-1+cj (QQ y) k=r by rw[HR.o,Fp ⟨y0,y1⟩ ⟨m0,m1⟩ k ω]);go_wp2;go_ret2;exact⟨wI HE.o,qE (qF b1 b2) _⟩
theorem Fj (y m d n:Int) (ok:Bool) (H:Hid (jV y m d=(n,ok))) (w:World):
  Calls prog 244 #[y,m,d] w λe w'=>e=.returned (.tuple #[n,ok])/\Bl w w':=by
 rcases Fa y m d with⟨hy,hm,hd⟩|⟨hc,k⟩
 ·
  obtain⟨rfl,rfl⟩:=qAE ((OO hy hm hd).symm.trans H.o);exact Fv y m d _ hy hm hd rfl w
 obtain⟨rfl,rfl⟩:=qAE (k.symm.trans H.o);clear k H;rcases hc with hc|⟨n,hc,hd|⟨hd,hd'⟩⟩
 all_goals
  have HD:=qA hc;clear hc;go_enter func244,ntmps244
  go_wp2_with (go_at_call 276;refine(FI _ _ _ _ HD _).mono ?_;rintro e w1 ⟨rfl,b1⟩)
  go_ret2;exact⟨rfl,b1⟩
def fK (d:Int) (e:Ending):Prop:=e=.returned (.tuple #[(kZ d),(jl d),(QJ d),true])
theorem cZ {d a b c:Int} (h:kZ d=a/\jl d=b/\QJ d=c):fK d (.returned (.tuple #[a,b,c,true])):=by
 obtain⟨rfl,rfl,rfl⟩:=h;rfl
theorem Es (d:Int) (h: ¬ (0<=d/\d<=36524)) (w:World):
  Calls prog 211 #[d] w λe w'=>e=.returned (.tuple #["","","",false])/\w=w':=by
 have HV:=CS h;clear h;go_enter func211,ntmps211
 go_wp2_with (go_at_call 121;refine(JB _ _ HV _).mono ?_;rintro e w1 ⟨rfl,rfl⟩)
 exact bodyPost_ret (v:=.tuple #["","","",false]) (by simp[results,results211,go_sem]) rfl ⟨rfl,rfl⟩
theorem CO (d:Int) (h0:0<=d) (h1:d<=36524) (w:World):
  Calls prog 211 #[d] w λe w'=>fK d e/\Bl w w':=by
 have HV:=sN h0 h1;by_cases hr:366<=d%1461
 ·
  obtain⟨⟨s0,s1⟩,s2,s3⟩:=uq h0 h1 hr;obtain⟨y,hy⟩:=ε (2000+d / 1461*4+(1+(d%1461-366) / 365));obtain⟨r,hr'⟩:=ε ((d%1461-366)%365);have hr0:0<=r:=ω
  have hr1:r<=1460:=ω
  rw[hy]at s0 s1 s2 s3;rw[hr']at s2 s3;have HY:=qA hy;have HRR:=qA hr';have HS:=qA s2;clear hy hr' s2;obtain⟨f,hf⟩: ∃ f,f=jB y 2:=⟨_,rfl⟩;obtain⟨b,hb,hbf⟩: ∃ b,Js y=b/\((b=true/\f=29)∨(b=false/\f=28)):=by
   rcases JG y (Y7 s0 s1)with⟨a,e⟩|⟨a,e⟩
   · exact⟨true,a,.inl ⟨rfl,by rw[hf,e]⟩⟩
   exact⟨false,a,.inr ⟨rfl,by rw[hf,e]⟩⟩
  have HL:=qA hb;have HF:=qA hf;have HBF:=qA hbf;clear hb hf hbf;go_enter func211,ntmps211
  go_wp2_with fail;refine(JB _ _ HV _).mono ?_;rintro e w1 ⟨rfl,rfl⟩;go_wp2_with fail;rw[HY.o];rw[HRR.o];refine(YC _ _ _ HL HBF.o _).mono ?_;rintro e w2 ⟨rfl,b2⟩;go_wp2_with fail;go_loop [7,32] (λs i=> ∃ k:Nat,k<=12/\i=k/\s=.int .i64 (r-cj (QQ y) k)/\cj (QQ y) k<=r) (λ_ i=>(12-intOf i).toNat)
  case atStart=>exact⟨0,σ,rfl,by simp[cj],by simp[cj];omega⟩
  obtain⟨k,hk,rfl,rfl,hcd⟩:=hrel;have hc:=Eu y k ω;obtain⟨c0,c1⟩:=hc;have hlt:(k:Int)<12:=by
   rcases Nat.lt_or_ge k 12 with h|h
   · omega
   have:k=12:=ω
   rw[this,Et]at hcd;omega
  have hltn:k<12:=ω
  have hix:=λW=>GH y f (k:Int) HF.o ω hlt W
  have HC:=qA (WY y k ω);have HX:Hid (r<cj (QQ y) k+jB y (1+(k:Int))->_):=dA ⟨s0,s1⟩ HS.o hltn hcd;have hb:=QX y (1+(k:Int));generalize jB y (1+(k:Int))=x at hix HC hb HX
  obtain⟨b0,b1⟩:=hb;by_cases hf:r-cj (QQ y) k<x
  ·
   go_wp2;exact bodyPost_ret (v:=.tuple #[y,.int .i64 ((k:Int)+1),.int .i64 (r-cj (QQ y) k+1),true]) (by simp[results,results211,go_sem]) rfl ⟨cZ (HX.o ω),b2⟩
  go_wp2;go_round;case rel=>exact⟨k+1,ω,by go_num,by rw[HC.o];go_num,by rw[HC.o];omega⟩
  simp[intOf];omega
 obtain⟨⟨s0,s1⟩,s2,s3⟩:=D7 h0 h1 ω;obtain⟨y,hy⟩:=ε (2000+d / 1461*4);obtain⟨r,hr'⟩:=ε (d%1461);have hr0:0<=r:=ω
 have hr1:r<=1460:=ω
 rw[hy]at s0 s1 s2 s3;rw[hr']at s2 s3;have HY:=qA hy;have HRR:=qA hr';have HS:=qA s2;clear hy hr' s2;obtain⟨f,hf⟩: ∃ f,f=jB y 2:=⟨_,rfl⟩;obtain⟨b,hb,hbf⟩: ∃ b,Js y=b/\((b=true/\f=29)∨(b=false/\f=28)):=by
  rcases JG y (Y7 s0 s1)with⟨a,e⟩|⟨a,e⟩
  · exact⟨true,a,.inl ⟨rfl,by rw[hf,e]⟩⟩
  exact⟨false,a,.inr ⟨rfl,by rw[hf,e]⟩⟩
 have HL:=qA hb;have HF:=qA hf;have HBF:=qA hbf;clear hb hf hbf;go_enter func211,ntmps211
 go_wp2_with fail;refine(JB _ _ HV _).mono ?_;rintro e w1 ⟨rfl,rfl⟩;go_wp2_with fail;rw[HY.o];rw[HRR.o];refine(YC _ _ _ HL HBF.o _).mono ?_;rintro e w2 ⟨rfl,b2⟩;go_wp2_with fail;go_loop [7,32] (λs i=> ∃ k:Nat,k<=12/\i=k/\s=.int .i64 (r-cj (QQ y) k)/\cj (QQ y) k<=r) (λ_ i=>(12-intOf i).toNat)
 case atStart=>exact⟨0,σ,rfl,by simp[cj],by simp[cj];omega⟩
 obtain⟨k,hk,rfl,rfl,hcd⟩:=hrel;have hc:=Eu y k ω;obtain⟨c0,c1⟩:=hc;have hlt:(k:Int)<12:=by
  rcases Nat.lt_or_ge k 12 with h|h
  · omega
  have:k=12:=ω
  rw[this,Et]at hcd;omega
 have hltn:k<12:=ω
 have hix:=λW=>GH y f (k:Int) HF.o ω hlt W
 have HC:=qA (WY y k ω);have HX:Hid (r<cj (QQ y) k+jB y (1+(k:Int))->_):=dA ⟨s0,s1⟩ HS.o hltn hcd;have hb:=QX y (1+(k:Int));generalize jB y (1+(k:Int))=x at hix HC hb HX
 obtain⟨b0,b1⟩:=hb;by_cases hf:r-cj (QQ y) k<x
 ·
  go_wp2;exact bodyPost_ret (v:=.tuple #[y,.int .i64 ((k:Int)+1),.int .i64 (r-cj (QQ y) k+1),true]) (by simp[results,results211,go_sem]) rfl ⟨cZ (HX.o ω),b2⟩
 go_wp2;go_round;case rel=>exact⟨k+1,ω,by go_num,by rw[HC.o];go_num,by rw[HC.o];omega⟩
 simp[intOf];omega
