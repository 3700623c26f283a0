/- Contracts, proved. Conditions: theirs. -/
import Derived.Test.YtakedkcjplfgeaaGreatDoorMPkFldB
set_option maxRecDepth 1000000
set_option maxHeartbeats 32000000
open Go.Proofs.Tryz
namespace Go.Proofs.YtakedkcjplfgeaaGreatDoor
open Go.RowKit
open Fld
theorem EM {t:Ψ} (h:t.getLast?=some 10):Lib.hasSuffix t [10]=true/\Lib.trimSuffix t [10]=t.dropLast:=by
 obtain⟨f,rfl⟩: ∃ f,t=f++[10]:=by
  obtain⟨ys,hy⟩:=List.getLast?_eq_some_iff.1 h;exact⟨ys,hy⟩
 have h1:Lib.hasSuffix (f++[10]) [10]=true:=by
  unfold Lib.hasSuffix;rw[List.isSuffixOf_iff_suffix];exact List.suffix_append ..
 refine⟨h1, ?_⟩;unfold Lib.trimSuffix;rw[U6 h1];simp
theorem EN {t:Ψ} (h: ¬ t.getLast?=some 10):Lib.hasSuffix t [10]=false:=by
 rw[Bool.eq_false_iff];intro h1;unfold Lib.hasSuffix at h1;rw[List.isSuffixOf_iff_suffix]at h1;obtain⟨f,rfl⟩:=h1;exact h σ
theorem uw (w:World) (s:Φ) (f:Ψ) (hf:s.data.toList=f) (hs:s.size<=34359738368):VW (w.alloc (.cells ((Lib.splitB ⟨#[10]⟩ 0 (Lib.countB s ⟨#[10]⟩) s).map Value.string).toArray 9)).heap.size
  (w.alloc (.cells ((Lib.splitB ⟨#[10]⟩ 0 (Lib.countB s ⟨#[10]⟩) s).map Value.string).toArray 9)) ((w.heap.size,0,Lib.countB s ⟨#[10]⟩+1,Lib.countB s ⟨#[10]⟩+1):Z) (zK 10 f):=by
 subst hf;have hd:=Lib.splitB_data ⟨#[10]⟩ 0 (Lib.countB s ⟨#[10]⟩) s;have hk:(Lib.splitB ⟨#[10]⟩ 0 (Lib.countB s ⟨#[10]⟩) s).map (·.data.toList)=zK 10 s.data.toList:=by
  rw[hd];exact oh 10 s.data.toList
 have hn:=Lib.splitB_all ⟨#[10]⟩ δ 0 _ s rfl;have hc:=Lib.countB_le ⟨#[10]⟩ δ _ s (U3 _);generalize Lib.splitB ⟨#[10]⟩ 0 (Lib.countB s ⟨#[10]⟩) s=ps at hk hn
 generalize Lib.countB s ⟨#[10]⟩=n at hn hc
 have hl:(zK 10 s.data.toList).length=n+1:=by rw[<-hk,U4,hn]
 have hl':=hl;rw[hl]at hl';refine⟨some (w.heap.size,0),n+1,by rw[hl],ω,ζ,λ_=>⟨w.heap.size,0,rfl,σ,λi x hx j u hu=>?_⟩⟩;match j,hu with
 |0,hu=>
  cases hu
  rw[<-hk,List.getElem?_map]at hx;obtain⟨p,hp,rfl⟩:=Option.map_eq_some_iff.1 hx;rw[show 0+i*1+0=i by omega,Uy (hn:=rfl)];simp[hp]
 |j+1,hu=>simp at hu
theorem Lm (s:Φ) (hs:s.size<=4294967280) (m:Int) (l:List Ψ) (e:Int) (H:Hid (vT s.data.toList=(l,e))) (w:World) (hm:w.cell? (1,0)=some (m:Z)):
  Calls prog 19 #[s] w λr w'=> ∃ v,r=.returned (.tuple #[v,e])/\VW w'.heap.size w' v l/\Bl w w':=by
 have hn:=yB s;by_cases hbig:65536<s.size
 ·
  have HF:=qA (show(([]:List Ψ),(5:Int))=(l,e) by rw[<-H.o];unfold vT;rw[U6 (by rw[hn];exact hbig)]);obtain⟨e1,e2⟩:=qAE HF.o;clear H HF;subst e1 e2;go_enter func19,ntmps19
  go_wp2;go_ret2;exact⟨_,rfl,zJ,qB _⟩
 by_cases h0:s.size=0
 ·
  have hs:s.toList=[]:=wK h0;have HF:=qA (show(([]:List Ψ),(0:Int))=(l,e) by
   rw[<-H.o];unfold vT;rw[U5 (by rw[hn];omega),U6 (List.length_eq_zero_iff.1 (hn.trans h0))])
  obtain⟨e1,e2⟩:=qAE HF.o;clear H HF;subst e1 e2;go_enter func19,ntmps19
  go_wp2;go_ret2;exact⟨_,rfl,zJ,qB _⟩
 have hne:=jG h0;have hne':=jQ h0;have hnl: ¬ s.data.toList=[]:=λh=>by rw[h]at hn;simp at hn;omega
 have hcut:=strings_CutSuffix s ⟨#[10]⟩ w ω;by_cases hlf:s.data.toList.getLast?=some 10
 ·
  obtain⟨c1,c2⟩:=EM hlf;have HF:=qA (show(zK 10 s.data.toList.dropLast,(0:Int))=(l,e) by
   rw[<-H.o];unfold vT;rw[U5 (by rw[hn];omega),U5 hnl,U6 hlf])
  obtain⟨e1,e2⟩:=qAE HF.o;rw[show(⟨#[10]⟩:Φ).data.toList=[10] from rfl,c1,c2]at hcut;obtain⟨f,hf⟩: ∃ f:Φ,f=⟨s.data.toList.dropLast.toArray⟩:=⟨_,rfl⟩;have hfl:f.data.toList=s.data.toList.dropLast:=by rw[hf]
  have hfs:f.size<=s.size:=by
   have:=yB f;rw[hfl,List.length_dropLast]at this;omega
  rw[<-hf]at hcut;have HS:=qA (uw w f _ hfl ω);have hsp:=strings_Split f ⟨#[10]⟩ m w ω hm δ;have hB:Bl w (w.alloc (.cells ((Lib.splitB ⟨#[10]⟩ 0 (Lib.countB f ⟨#[10]⟩) f).map Value.string).toArray 9)):=qE (qB _) _;rw[e1]at HS;have E2:=qA e2;generalize (w.alloc (.cells ((Lib.splitB ⟨#[10]⟩ 0 (Lib.countB f ⟨#[10]⟩) f).map Value.string).toArray 9))=wz at HS hsp hB
  generalize Lib.countB f ⟨#[10]⟩+1=n at HS hsp
  clear H HF e1 e2 hf hfl hlf c1 c2;go_enter func19,ntmps19
  go_wp2_with (go_at_call 37;refine hcut.mono ?_)
  rintro r w' ⟨rfl,rfl⟩;go_wp2_with (go_at_call 38;refine hsp.mono ?_)
  rintro r w' ⟨rfl,rfl⟩;go_wp2;go_ret2;exact⟨_,by rw[<-E2.o];rfl,HS.o,hB⟩
 have c1:=EN hlf;have HF:=qA (show(([]:List Ψ),(4:Int))=(l,e) by
  rw[<-H.o];unfold vT;rw[U5 (by rw[hn];omega),U5 hnl,U5 hlf])
 obtain⟨e1,e2⟩:=qAE HF.o;rw[show(⟨#[10]⟩:Φ).data.toList=[10] from rfl,c1]at hcut;generalize (Lib.trimSuffix s.data.toList [10]).toArray=z at hcut
 clear H HF hlf c1;subst e1 e2;go_enter func19,ntmps19
 go_wp2_with (go_at_call 37;refine hcut.mono ?_)
 rintro r w' ⟨rfl,rfl⟩;go_wp2;go_ret2;exact⟨_,rfl,zJ,qB _⟩
end Go.Proofs.YtakedkcjplfgeaaGreatDoor
namespace Go.Proofs.YtakedkcjplfgeaaGreatDoor
open Go.RowKit
theorem ZJ (b:Nat) (w:World) (h0:w.cell? (b,0)=some ((b,0):Z)):
  Calls prog 155 #[(b,0)] w λe w'=>e=.returned (.tuple #[])/\w'=w:=by
 obtain⟨j,hj,_⟩:=Option.map_eq_some_iff.1 Builder_Extra_169.sizeBuilder;have hj':prog.info? 142=some j:=hj;go_enter func155,ntmps155
 go_wp2;rw[Lib.run_neq_ptr_same w _ underlying139 hj'];go_wp2;go_end0;exact⟨rfl,rfl⟩
theorem Qn (b:Nat) (w:World) (h0:w.cell? (b,0)=some (.pointer none)) (hsh:w.shape? b=some (142,2)) (hfz:w.frozen? (b,0)=false):
  Calls prog 155 #[(b,0)] w λe w'=>e=.returned (.tuple #[])/\w'=w.setCell (b,0) ((b,0):Z):=by
 obtain⟨j,hj,hjs⟩:=Option.map_eq_some_iff.1 Builder_Extra_169.sizeBuilder;have hj':prog.info? 142=some j:=hj;go_enter func155,ntmps155
 go_wp2;rw[Lib.run_to_unsafe w ⟨b,0,none⟩ underlying139 underlying229 hj' (by rw[hjs];decide) hsh (Nat.zero_lt_succ 1)];simp only[Result.andThen];rw[Oper.upon_value];go_wp2;rw[run_callFunc_extern func220 κ κ κ (e:=Extern.AbiNoEscape.same) κ];rw[Lib.run_noEscape];simp only[Result.andThen];rw[Oper.upon_value];go_wp2;rw[Lib.run_from_unsafe w ⟨b,0,none⟩ underlying229 underlying139 hj' hsh Builder_Extra_169.liesBuilder];simp only[Result.andThen];rw[Oper.upon_value];go_wp2;go_end0;exact⟨rfl,rfl⟩
theorem Zf (B b:Nat) (bs:List Value) (w:World) (h:Lib.IsBuilder 142 5 B b bs w):
  Calls prog 155 #[(b,0)] w λe w'=>e=.returned (.tuple #[])/\(Lib.BuilderAt 142 5 B b ((b,0):Z) bs w'/\Below B w w'):=by
 rcases h with h|h
 ·
  refine(Qn b w h.cell0 h.shape h.frozen0).mono ?_;rintro e w' ⟨rfl,rfl⟩;exact⟨rfl,h.used _,(Below.refl B w).setCell (p:=((b,0):A)) h.1 _⟩
 refine(ZJ b w h.cell0).mono ?_;rintro e w' ⟨rfl,rfl⟩;exact⟨rfl,h,Below.refl B _⟩
theorem Z9 (B b:Nat) (bs:List Value) (s:Φ) (w:World) (h:Lib.IsBuilder 142 5 B b bs w) (hlen:bs.length+s.size<=140737488355328) (hBw:B<=w.heap.size):
  Calls prog 80 #[(b,0),s] w λe w'=>e=.returned (.tuple #[s.size,.nilIface])/\(Lib.BuilderAt 142 5 B b ((b,0):Z) (bs++Lib.strCells s) w'/\Below B w w'):=by
 obtain⟨i0,hi,hz0,hz1,hz2⟩:=info_parts vk;go_enter func80,ntmps80
 go_wp2_with (go_at_call 155;refine(Zf B b bs _ h).mono ?_)
 rintro e w1 ⟨rfl,h1,hb1⟩;obtain⟨hB,v,hbk,hown,hne⟩:=h1;have c0:w1.cell? (b,0)=some ((b,0):Z):=by rw[Lib.cell_of_heap hbk];rfl
 have c1:w1.cell? (b,1)=some v:=by rw[Lib.cell_of_heap hbk];rfl
 go_wp2_with (at_builtin;refine Lib.wpList_append_own_string _ rfl _ _ 140 9 rfl B 5 i0 underlying140 underlying9 hi hz0 hz1 hz2 _ _ _ rfl hown s rfl ?c3 ?c4 ?c5 ?_)
 case c3=>unfold maxLen;omega
 case c4=>omega
 case c5=>have:=hb1.size;omega
 intro v' w2 hown' hgrow _;have hlt:b<w1.heap.size:=by
  rcases Nat.lt_or_ge b w1.heap.size with h'|h'
  · exact h'
  simp[Array.getElem?_eq_none h']at hbk
 have hb2:w2.heap[b]? =some (.cells #[(b,0),v] 142 (0,0)):=by
  rw[hgrow.block b hlt (λe=>hne e.symm)];exact hbk
 have d0:w2.cell? (b,0)=some ((b,0):Z):=by rw[Lib.cell_of_heap hb2];rfl
 have d1:w2.cell? (b,1)=some v:=by rw[Lib.cell_of_heap hb2];rfl
 have f1:w2.frozen? (b,1)=false:=U8 hb2 1;obtain⟨ao,n',cap,rfl⟩: ∃ ao n' cap,v'=.slice ao n' cap:=by
  rcases hown'.2 with⟨hv,_⟩|⟨g,cap,cur,hv,_⟩
  · exact⟨_,_,_,hv⟩
  exact⟨_,_,_,hv⟩
 go_wp2;go_ret2;refine⟨rfl, ?_, ?_⟩
 · exact Lib.BuilderAt.put (T:=142) (e:=5) hB hb2 (bs':=bs++Lib.strCells s) (by simpa[Lib.strCells_length]using hown') δ
 exact(hb1.grown hgrow (by have:=hb1.size;omega) (λk hk=>(hown.lt k hk).1)).setCell (p:=((b,1):A)) hB _
theorem rM (B b:Nat) (bs:List Value) (c:UInt8) (w:World) (h:Lib.IsBuilder 142 5 B b bs w) (hlen:bs.length+1<=140737488355328) (hBw:B<=w.heap.size):
  Calls prog 81 #[(b,0),.int .u8 c.toNat] w λe w'=>e=.returned .nilIface/\(Lib.BuilderAt 142 5 B b ((b,0):Z) (bs++[.int .u8 c.toNat]) w'/\Below B w w'):=by
 obtain⟨i0,hi,hz0,hz1,hz2⟩:=info_parts vk;go_enter func81,ntmps81
 go_wp2_with (go_at_call 155;refine(Zf B b bs _ h).mono ?_)
 rintro e w1 ⟨rfl,h1,hb1⟩;obtain⟨hB,v,hbk,hown,hne⟩:=h1;have c0:w1.cell? (b,0)=some ((b,0):Z):=by rw[Lib.cell_of_heap hbk];rfl
 have c1:w1.cell? (b,1)=some v:=by rw[Lib.cell_of_heap hbk];rfl
 go_wp2_with (at_builtin;refine wpList_append_own _ rfl _ _ 140 rfl B 5 i0 (.int .u8 0) 1 1 underlying140 hi hz0 hz1 hz2 rfl δ _ _ _ rfl (World.ownsRow.alloc hown _) (w1.heap.size,0) 1 1 [.int .u8 c.toNat] rfl rfl ?c1 ?c2 ?c3 ?c4 ?c5 ?_)
 case c1=>exact zl _ (λj u h=>η)
 case c2=>simp[Value.oneCell']
 case c3=>unfold maxLen;omega
 case c4=>omega
 case c5=>have:=hb1.size;simp;omega
 intro v' w2 hown' hgrow _;have hlt:b<w1.heap.size:=by
  rcases Nat.lt_or_ge b w1.heap.size with h'|h'
  · exact h'
  simp[Array.getElem?_eq_none h']at hbk
 have hb2:w2.heap[b]? =some (.cells #[(b,0),v] 142 (0,0)):=by
  rw[hgrow.block b τ (λe=>hne e.symm)];exact(heap_alloc_old w1 _ hlt).trans hbk
 have d0:w2.cell? (b,0)=some ((b,0):Z):=by rw[Lib.cell_of_heap hb2];rfl
 have d1:w2.cell? (b,1)=some v:=by rw[Lib.cell_of_heap hb2];rfl
 have f1:w2.frozen? (b,1)=false:=U8 hb2 1;obtain⟨ao,n',cap,rfl⟩: ∃ ao n' cap,v'=.slice ao n' cap:=by
  rcases hown'.2 with⟨hv,_⟩|⟨g,cap,cur,hv,_⟩
  · exact⟨_,_,_,hv⟩
  exact⟨_,_,_,hv⟩
 go_wp2;go_ret;refine⟨rfl, ?_, ?_⟩
 · exact Lib.BuilderAt.put (T:=142) (e:=5) hB hb2 (bs':=bs++[.int .u8 c.toNat]) (by simpa using hown') δ
 exact((hb1.alloc (Ux hBw hb1.size) _).grown hgrow (by have:=hb1.size;simp;omega) (λk hk=>(hown.lt k hk).1)).setCell (p:=((b,1):A)) hB _
open Fld
theorem Le {x:Ψ} (h:x.contains 10=false):Lib.indexByte x 10= -1:=by
 have hge:=Lib.indexByte_ge x 10;rcases Int.lt_or_le (Lib.indexByte x 10) 0 with hl|hl
 · omega
 exfalso
 obtain⟨j,hj⟩: ∃ j:Nat,Lib.indexByte x 10=j:=⟨(Lib.indexByte x 10).toNat,ω⟩;have:=(Lib.indexByte_some hj).1;have hm:x.contains 10=true:=List.contains_iff_mem.2 (Uz this);rw[h]at hm;cases hm
theorem Lh {x:Ψ} (h:x.contains 10=true): ∃ j:Nat,Lib.indexByte x 10=j:=by
 have hge:=Lib.indexByte_ge x 10;rcases Int.lt_or_le (Lib.indexByte x 10) 0 with hl|hl
 ·
  exfalso
  obtain⟨i,hi⟩:=List.getElem?_of_mem (List.contains_iff_mem.1 h);exact Lib.indexByte_none ω i hi
 exact⟨(Lib.indexByte x 10).toNat,ω⟩
theorem AA {ls:List Ψ} {k:Nat} {x:Ψ} (h:ls[k]? =some x):vK (ls.take (k+1))=(vK (ls.take k)++x)++[10]:=by
 rw[YM h];simp[vK]
theorem bT (ls:List Ψ) (k:Nat):(vK (ls.take k)).length<=(vK ls).length:=by
 have:vK ls=vK (ls.take k)++vK (ls.drop k):=by
  unfold vK;rw[<-List.flatMap_append,List.take_append_drop]
 rw[this,U1];omega
theorem NH {ls:List Ψ} {x:Ψ} (hx:x∈ls) (h:x.contains 10=true):Zu ls=([],3):=by
 have:VD ls=false:=by
  unfold VD;rw[Bool.eq_false_iff];intro hc;have:=List.all_eq_true.1 hc x hx;rw[h]at this;cases this
 unfold Zu;rw[U6 this]
theorem ET {ls:List Ψ} {k:Nat} (h:VD ls=true) (ho:65536<(vK (ls.take k)).length):Zu ls=([],5):=by
 have:=bT ls k;unfold Zu;rw[U5 (by rw[h];decide),U6 ω]
theorem IQ {ls:List Ψ} {k:Nat} (h:VD ls=true) (hk:ls.length<=k) (ho:(vK (ls.take k)).length<=65536):Zu ls=(vK (ls.take k),0):=by
 rw[U9 hk]at ho ⊢;unfold Zu;rw[U5 (by rw[h];decide),U5 ω]
theorem DU {ls:List Ψ} {k:Nat} {x:Ψ} (hx:ls[k]? =some x) (h:VD (ls.take k)=true) (hc:x.contains 10=false):VD (ls.take (k+1))=true:=by
 unfold VD at h ⊢;rw[YM hx,List.all_append,h,List.all_cons,hc];rfl
theorem PO (v:Value) (l:List Ψ) (o:Ψ) (e:Int) (H:Hid (Zu l=(o,e))) (HL:Hid (∀ x∈l,x.length<=131072)) (B:Nat) (w:World) (hv:VW B w v l) (hB:B<=w.heap.size):
  Calls prog 32 #[v] w λr w'=>r=.returned (.tuple #[qP o,e])/\Bl w w':=by
 by_cases h0:0<l.length
 ·
  obtain⟨b1,o1,cap1,rfl,l1,m1,hb1,hc1⟩:=hv.open h0;have H1:=qA hc1;clear hv hc1;go_enter func32,ntmps32
  go_wp2;go_loop [12] (λi=> ∃ k:Nat,k<=l.length/\i=k/\Hid (VD (l.take k)=true)) (λi=>l.length-(intOf i).toNat)
  case atStart=>exact⟨0,qAD _,rfl,by show _=_;rfl⟩
  obtain⟨k,hk,rfl,HN⟩:=hrel;by_cases hlt:k<l.length
  ·
   obtain⟨x,hx⟩: ∃ x,l[k]? =some x:=⟨_,U2 hlt⟩;have c1:w.cell? (b1,o1+k)=some (qP x):=by have:=H1.o k x hx 0 _ rfl;simpa using this
   have i1:(k:Int)<(l.length:Int):=ω
   have hix:=strings_IndexByte ⟨x.toArray⟩ 10 w;rw[show(⟨x.toArray⟩:Φ).data.toList=x from rfl,show((10:Int).toNat.toUInt8)=10 from rfl]at hix;by_cases hc:x.contains 10=true
   ·
    obtain⟨j,hj⟩:=Lh hc;have HF:=qA (NH (Uz hx) hc);obtain⟨e1,e2⟩:=qAE (HF.o.symm.trans H.o);rw[hj]at hix;clear HF H hx hc hj;subst e1 e2;go_wp2_with (go_at_call 79;refine hix.mono ?_)
    go_ret2;exact⟨rfl,qB _⟩
   have hc':x.contains 10=false:=by simpa using hc
   have HM:=qA (DU hx HN.o hc');rw[Le hc']at hix;clear hc hc' hx;go_wp2_with (go_at_call 79;refine hix.mono ?_)
   go_round;case rel=>exact⟨k+1,ω,by go_num,HM⟩
   simp[intOf];omega
  have HA:=qA (show VD l=true by have:=HN.o;rw[U9 ω]at this;exact this);go_wp2;go_loopw [4,22] (λvn i wr=> ∃ (j n:Nat),j<=l.length/\i=j/\vn=n/\n<=65536/\Hid ((vK (l.take j)).length=n)/\Hid (Lib.IsBuilder 142 5 w.heap.size w.heap.size (Lib.byteCells (vK (l.take j))) wr)/\Hid (Bl w wr)) (λ_ i _=>l.length-(intOf i).toNat)
  case atStart=>exact⟨0,0,qAD _,rfl,rfl,δ,by show _=_;rfl,Lib.fresh_isBuilder _ _ w,qE (qB _) _⟩
  obtain⟨j,n,hj,rfl,rfl,hn,HT,HI,HB⟩:=hrel;by_cases hlt2:j<l.length
  ·
   obtain⟨x,hx⟩: ∃ x,l[j]? =some x:=⟨_,U2 hlt2⟩;have c1:wr.cell? (b1,o1+j)=some (qP x):=by rw[(qG HB.o).1 _ _ ω];have:=H1.o j x hx 0 _ rfl;simpa using this
   have i1:(j:Int)<(l.length:Int):=ω
   have hxl:x.length<=131072:=HL.o x (Uz hx);have HX:=qA (AA hx);have hlen:(vK (l.take (j+1))).length=n+x.length+1:=by rw[HX.o,U1,U1,HT.o];rfl
   have HS:=qA (show(⟨x.toArray⟩:Φ).size=x.length by show x.toArray.size=_;simp);clear hx;by_cases hover:(65536:Int)<(n:Int)+((x.length:Int)+1)
   ·
    have HF:=qA (ET (k:=j+1) HA.o ω);obtain⟨e1,e2⟩:=qAE (HF.o.symm.trans H.o);clear HF H;subst e1 e2;go_wp2;go_ret2;exact⟨rfl,HB.o⟩
   go_wp2_with (go_at_call 80;refine(Z9 w.heap.size w.heap.size _ ⟨x.toArray⟩ _ HI.o (by rw[Lib.byteCells_length,HT.o,HS.o];omega) HB.o.size).mono ?_;rintro r w1 ⟨rfl,h1,b1'⟩)
   have B1:Hid (Bl w w1):=HB.o.trans b1';have I1:=qA (show Lib.IsBuilder 142 5 w.heap.size w.heap.size (Lib.byteCells (vK (l.take j)++x)) w1 from .inr (by rw[Lib.byteCells_append];exact h1));clear h1 b1';go_wp2_with (go_at_call 81;refine(rM w.heap.size w.heap.size _ 10 _ I1.o (by rw[Lib.byteCells_length,U1,HT.o];omega) B1.o.size).mono ?_)
   rintro r w2 ⟨rfl,h2,b2⟩;have B2:Hid (Bl w w2):=B1.o.trans b2;have I2:=qA (show Lib.IsBuilder 142 5 w.heap.size w.heap.size (Lib.byteCells (vK (l.take (j+1)))) w2 from .inr (by rw[HX.o,Lib.byteCells_append];exact h2));clear h2 b2;go_wp2;go_roundw;case rel=>exact⟨j+1,n+x.length+1,ω,by go_num,by go_num,ω,hlen,I2,B2⟩
   simp[intOf];omega
  have HF:=qA (IQ (k:=j) HA.o ω (by rw[HT.o];exact hn));obtain⟨e1,e2⟩:=qAE (HF.o.symm.trans H.o);go_wp2_with (go_at_call 82;refine(Builder_String_any w.heap.size w.heap.size (vK (l.take j)) _ HI.o HB.o.size).mono ?_)
  rintro r w1 ⟨rfl,b1⟩;have B1:Hid (Bl w w1):=HB.o.trans b1;clear HF H b1;subst e1 e2;go_wp2;go_ret2;exact⟨rfl,B1.o⟩
 obtain⟨a1,c1,rfl,m1,rfl⟩:=hv.empty ω;have HF:=qA (show(([]:Ψ),(0:Int))=(o,e) by rw[<-H.o];rfl);obtain⟨e1,e2⟩:=qAE HF.o;clear H HF hv;subst e1 e2;go_enter func32,ntmps32
 go_wp2_with fail;refine wp_loop_rounds 1 ?_;rw[rounds_succ];go_wp2;refine wp_loop_rounds 1 ?_;rw[rounds_succ];go_wp2_with (go_at_call 82;refine(Builder_String_any w.heap.size w.heap.size [] _ (Lib.fresh_isBuilder _ _ w) σ).mono ?_)
 rintro r w1 ⟨rfl,b1⟩;go_wp2;go_ret2;exact⟨rfl,(qE (qB _) _).trans b1⟩
