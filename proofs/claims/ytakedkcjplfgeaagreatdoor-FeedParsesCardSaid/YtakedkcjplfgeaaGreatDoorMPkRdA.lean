/- Contracts, proved. Conditions: theirs. -/
import Derived.Test.YtakedkcjplfgeaaGreatDoorMPkFedA
import Derived.Test.YtakedkcjplfgeaaGreatDoorMPkFldC
import Derived.Test.YtakedkcjplfgeaaGreatDoorMPkDaB
import Derived.Test.YtakedkcjplfgeaaGreatDoorMPkCkB
import Derived.Test.YtakedkcjplfgeaaGreatDoorMPkNuA
set_option maxRecDepth 1000000
set_option maxHeartbeats 32000000
open Go.Proofs.Tryz
namespace Go.Proofs.YtakedkcjplfgeaaGreatDoor
open Go.RowKit
open Frq Thr Tt Num Clk Dat Fld
structure PX where
 vs:Nat->Value
 f:Jp
 mb:Nat->Nat
 rules:Int
 o:Bool
def Ih (g:Nat) (u:Value) (e:Int) (X:PX) (w:World):Prop:=w.heap[g]? =some (.cells (pC u e X.vs X.f X.mb X.rules X.o) 76 (0,0))
def JU (rb:Nat) (w:World) (u:Value) (l:List Ψ):Prop:= ∃ (a:Option Addr) (c:Nat),u=.slice a l.length c/\l.length<=c/\c<=maxLen/\(0<l.length-> ∃ o:Nat,a=some ((rb,o):A)/\ ∀ (i:Nat) (x:Ψ),l[i]? =some x->w.cell? (rb,o+i)=some (qP x))
theorem JU.kept {rb:Nat} {w w':World} {u:Value} {l:List Ψ} (h:JU rb w u l) (hb:w'.heap[rb]? =w.heap[rb]?):JU rb w' u l:=by
 obtain⟨a,c,rfl,l1,l2,l3⟩:=h;refine⟨a,c,rfl,l1,l2,λh0=>?_⟩;obtain⟨o,ha,hc⟩:=l3 h0;exact⟨o,ha,λi x hx=>(World.cell?_of_block (a:=((rb,o+i):A)) hb).trans (hc i x hx)⟩
structure ah (m:Int) (w:World):Prop where
 ml:w.cell? (1,0)=some (m:Z)
 nm: ∀ (i:Nat) (x:Ψ),modeWords[i]? =some x->w.cell? (0,i)=some (qP x)
theorem ah.lt {m:Int} {w:World} (h:ah m w):1<w.heap.size/\0<w.heap.size:=⟨World.block_lt_of_cell? w _ h.ml,World.block_lt_of_cell? w _ (h.nm 0 _ rfl)⟩
theorem ah.kept {m:Int} {w w':World} (h:ah m w) (h1:w'.heap[1]? =w.heap[1]?) (h2:w'.heap[0]? =w.heap[0]?):ah m w':=
 ⟨(World.cell?_of_block (a:=((1,0):A)) h1).trans h.ml,λi x hx=>(World.cell?_of_block (a:=((0,i):A)) h2).trans (h.nm i x hx)⟩
theorem ah.bl {m:Int} {w w':World} (h:ah m w) (hb:Bl w w'):ah m w':=h.kept (hb.block _ h.lt.1) (hb.block _ h.lt.2)
structure wR (g rb:Nat) (m e:Int) (X:PX) (l:List Ψ) (w:World):Prop where
 at': ∃ u,Ih g u e X w/\JU rb w u l
 ne:rb≠g
 lt:rb<w.heap.size
 env:ah m w
 gl:1≠g/\0≠g
section
variable {g rb:Nat} {m e:Int} {X:PX} {l:List (List UInt8)} {w w':World}
theorem wR.glt (h:wR g rb m e X l w):g<w.heap.size:=by
 obtain⟨u,h1,-⟩:=h.at';exact lt_of_block h1
theorem wR.bl (h:wR g rb m e X l w) (hb:Bl w w'):wR g rb m e X l w':=by
 obtain⟨u,h1,h2⟩:=h.at';exact⟨⟨u,qX h1 hb,h2.kept (hb.block rb h.lt)⟩,h.ne,Nat.lt_of_lt_of_le h.lt hb.size,h.env.bl hb,h.gl⟩
theorem wR.turn {e':Int} {X':PX} (h:wR g rb m e X l w) (hg:Gr g w w') {l':List Ψ} (k: ∃ u,Ih g u e' X' w'/\JU rb w u l'):wR g rb m e' X' l' w':=by
 obtain⟨u,h1,h2⟩:=k;exact⟨⟨u,h1,h2.kept (qg hg h.lt h.ne)⟩,h.ne,Nat.lt_of_lt_of_le h.lt hg.size,h.env.kept (qg hg h.env.lt.1 h.gl.1) (qg hg h.env.lt.2 h.gl.2),h.gl⟩
theorem wR.row {row:Option Nat} (h:wR g rb m e X l w) (hg:w.grownBy w' row) (h1:row≠some g) (h2:row≠some rb) (h3:row≠some 1) (h4:row≠some 0):wR g rb m e X l w':=by
 obtain⟨u,k1,k2⟩:=h.at';exact⟨⟨u,(hg.block g (lt_of_block k1) (λe=>h1 e.symm)).trans k1,k2.kept (hg.block rb h.lt (λe=>h2 e.symm))⟩,h.ne,Nat.lt_of_lt_of_le h.lt hg.size,h.env.kept (hg.block _ h.env.lt.1 (λe=>h3 e.symm)) (hg.block _ h.env.lt.2 (λe=>h4 e.symm)),h.gl⟩
end
def fe (e e2:Int):Int:=if e=0 then e2 else e
theorem ji (e:Int):fe e 0=e:=by
 unfold fe;split
 · rename_i h;exact h.symm
 rfl
theorem zy (g rb:Nat) (m e:Int) (X:PX) (x:Ψ) (r:List Ψ) (w:World) (h:wR g rb m e X (x::r) w):
  Calls prog 107 #[(g,0)] w λq w'=>q=.returned (qP x)/\wR g rb m e X r w'/\Gr g w w':=by
 obtain⟨u,hp,a,c,rfl,l1,l2,l3⟩:=h.at';obtain⟨o,rfl,hc⟩:=l3 σ;have c0:w.cell? (g,0)=some ((rb,o,r.length+1,c):Z):=qC hp 0 _ rfl;have f0:=U8 hp 0;have x0:w.cell? (rb,o)=some (qP x):=hc 0 x rfl;have HC:=qA hc;have HP:=qA hp;have HR:=qA h;unfold maxLen at l2;simp only[U7]at l1;clear hc hp h l3;have e1:(((r.length+1:Nat):Int)==0)=false:=π
 go_enter func107,ntmps107
 go_wp2;all_goals
  go_ret;refine⟨rfl,HR.o.turn (zH g w 0 _) ⟨_,qQ HP.o 0 _, ?_⟩,zH g w 0 _⟩
 all_goals first
  |exact⟨_,_,rfl,ω,ζ,λh0=>ω⟩
  |exact⟨_,_,rfl,ω,ζ,λh0=>⟨o+1,rfl,λi y hy=>by
    have:=HC.o (i+1) y (by simpa using hy);rw[show o+1+i=o+(i+1) by omega];exact this⟩⟩
theorem yH (g rb:Nat) (m e e2 e3:Int) (H:Hid (fe e e2=e3)) (X:PX) (l:List Ψ) (w:World) (h:wR g rb m e X l w):
  Calls prog 186 #[(g,0),e2] w λq w'=>q=.returned (.tuple #[])/\wR g rb m e3 X l w'/\Gr g w w':=by
 obtain⟨u,hp,hf⟩:=h.at';have c1:w.cell? (g,1)=some (e:Z):=qC hp 1 _ rfl;have f1:=U8 hp 1;have HP:=qA hp;have HF:=qA hf;have HR:=qA h;clear h hp hf;by_cases he:e=0
 ·
  have HE:=qA (show e2=e3 by rw[<-H.o];unfold fe;rw[U6 he]);subst he;clear H;go_enter func186,ntmps186
  go_wp2;go_end0;exact⟨rfl,HR.o.turn (zH g w 1 _) ⟨u,by rw[<-HE.o];exact qQ HP.o 1 _,HF.o⟩,zH g w 1 _⟩
 have HE:=qA (show e=e3 by rw[<-H.o];unfold fe;rw[U5 he]);have f2:(e==0)=false:=by rw[U0];exact he
 clear H;go_enter func186,ntmps186
 go_wp2;go_end0;exact⟨rfl,by rw[<-HE.o];exact HR.o,BH g w⟩
theorem FD (l:Ψ):Day l (wB l).1 (wB l).2:=by
 cases hs:vG l pat10 with
 |false=>
  have e:wB l=(0,3):=by unfold wB;rw[hs];rfl
  rw[e];exact .bad hs
 |true=>
  obtain⟨y,m,d,h⟩:=IJ hs;have h':=h;obtain⟨a,b,c,e,f,g,h0,k,rfl,-,-,-,e1,e2,e3⟩:=h';rcases WU y m d with q|⟨n,q⟩
  ·
   have hd:wB [a,b,c,e,45,f,g,45,h0,k]=(0,11):=by
    unfold wB;rw[U6 hs];simp only;rw[<-e1,<-e2,<-e3,q]
   rw[hd];exact .out h q
  have hd:wB [a,b,c,e,45,f,g,45,h0,k]=(n,0):=by
   unfold wB;rw[U6 hs];simp only;rw[<-e1,<-e2,<-e3,q]
  rw[hd];exact .ok n h q
theorem VO (x:Ψ) {n:Nat} (h:x.length<=n):(⟨x.toArray⟩:Φ).size<=n:=by show x.toArray.size<=_;rw[List.size_toArray];exact h
theorem ZE (g rb:Nat) (m e e2 E n:Int) (X:PX) (x:Ψ) (r:List Ψ) (HX:Hid (kF x=(n,e2))) (hx:x.length<=131072) (H:Hid (fe e e2=E)) (w:World) (h:wR g rb m e X (x::r) w):
  Calls prog 108 #[(g,0)] w λq w'=>q=.returned (n:Z)/\wR g rb m E X r w'/\Gr g w w':=by
 have HR:=qA h;clear h;go_enter func108,ntmps108
 go_wp2_with (go_at_call 107;refine(zy g rb m e X x r w HR.o).mono ?_)
 rintro y0 w0 ⟨rfl,r0,g0⟩;have R0:=qA r0;have G0:=qA g0;have hp:=Nu.iC ⟨x.toArray⟩ n e2 HX (VO x ζ) w0;clear r0 g0;go_wp2_with (go_at_call 185;refine hp.mono ?_)
 rintro y1 w1 ⟨rfl,b1⟩;have R1:=qA (R0.o.bl b1);have G1:=qA (qJ G0.o (jH b1));clear b1 hp;go_wp2_with (go_at_call 186;refine(yH g rb m e e2 E H X r w1 R1.o).mono ?_)
 rintro y2 w2 ⟨rfl,r2,g2⟩;go_wp2;go_ret;exact⟨rfl,r2,qJ G1.o g2⟩
theorem Zl (g rb:Nat) (m e e2 E n:Int) (X:PX) (x:Ψ) (r:List Ψ) (HX:Hid (jw x=(n,e2))) (H:Hid (fe e e2=E)) (w:World) (h:wR g rb m e X (x::r) w):
  Calls prog 116 #[(g,0)] w λq w'=>q=.returned (n:Z)/\wR g rb m E X r w'/\Gr g w w':=by
 have HR:=qA h;clear h;go_enter func116,ntmps116
 go_wp2_with (go_at_call 107;refine(zy g rb m e X x r w HR.o).mono ?_)
 rintro y0 w0 ⟨rfl,r0,g0⟩;have R0:=qA r0;have G0:=qA g0;have hp:=Ck.iC ⟨x.toArray⟩ n e2 (by have:=Yh x;rw[HX.o]at this;exact this) w0;clear r0 g0;go_wp2_with (go_at_call 189;refine hp.mono ?_)
 rintro y1 w1 ⟨rfl,b1⟩;have R1:=qA (R0.o.bl b1);have G1:=qA (qJ G0.o (jH b1));clear b1 hp;go_wp2_with (go_at_call 186;refine(yH g rb m e e2 E H X r w1 R1.o).mono ?_)
 rintro y2 w2 ⟨rfl,r2,g2⟩;go_wp2;go_ret;exact⟨rfl,r2,qJ G1.o g2⟩
theorem YW (g rb:Nat) (m e e2 E n:Int) (X:PX) (x:Ψ) (r:List Ψ) (HX:Hid (wE x=(n,e2))) (hx:x.length<=131072) (H:Hid (fe e e2=E)) (w:World) (h:wR g rb m e X (x::r) w):
  Calls prog 190 #[(g,0)] w λq w'=>q=.returned (n:Z)/\wR g rb m E X r w'/\Gr g w w':=by
 have HR:=qA h;clear h;go_enter func190,ntmps190
 go_wp2_with (go_at_call 107;refine(zy g rb m e X x r w HR.o).mono ?_)
 rintro y0 w0 ⟨rfl,r0,g0⟩;have R0:=qA r0;have G0:=qA g0;have hp:=Ck.Ox ⟨x.toArray⟩ n e2 HX (VO x hx) m w0 R0.o.env.ml;clear r0 g0;go_wp2_with (go_at_call 248;refine hp.mono ?_)
 rintro y1 w1 ⟨rfl,b1⟩;have R1:=qA (R0.o.bl b1);have G1:=qA (qJ G0.o (jH b1));clear b1 hp;go_wp2_with (go_at_call 186;refine(yH g rb m e e2 E H X r w1 R1.o).mono ?_)
 rintro y2 w2 ⟨rfl,r2,g2⟩;go_wp2;go_ret;exact⟨rfl,r2,qJ G1.o g2⟩
theorem Ve (g rb:Nat) (m e e2 E n:Int) (X:PX) (x:Ψ) (r:List Ψ) (HX:Hid (wB x=(n,e2))) (H:Hid (fe e e2=E)) (w:World) (h:wR g rb m e X (x::r) w):
  Calls prog 113 #[(g,0)] w λq w'=>q=.returned (n:Z)/\wR g rb m E X r w'/\Gr g w w':=by
 have HR:=qA h;clear h;go_enter func113,ntmps113
 go_wp2_with (go_at_call 107;refine(zy g rb m e X x r w HR.o).mono ?_)
 rintro y0 w0 ⟨rfl,r0,g0⟩;have R0:=qA r0;have G0:=qA g0;have hp:=Da.FC ⟨x.toArray⟩ n e2 (by have:=FD x;rw[HX.o]at this;exact this) w0;clear r0 g0;go_wp2_with (go_at_call 188;refine hp.mono ?_)
 rintro y1 w1 ⟨rfl,b1⟩;have R1:=qA (R0.o.bl b1);have G1:=qA (qJ G0.o (jH b1));clear b1 hp;go_wp2_with (go_at_call 186;refine(yH g rb m e e2 E H X r w1 R1.o).mono ?_)
 rintro y2 w2 ⟨rfl,r2,g2⟩;go_wp2;go_ret;exact⟨rfl,r2,qJ G1.o g2⟩
theorem Y4 (g rb:Nat) (m e e2 E n:Int) (X:PX) (x:Ψ) (r:List Ψ) (HX:Hid (jr x=(n,e2))) (hx:x.length<=131072) (H:Hid (fe e e2=E)) (w:World) (h:wR g rb m e X (x::r) w):
  Calls prog 191 #[(g,0)] w λq w'=>q=.returned (n:Z)/\wR g rb m E X r w'/\Gr g w w':=by
 have HR:=qA h;clear h;go_enter func191,ntmps191
 go_wp2_with (go_at_call 107;refine(zy g rb m e X x r w HR.o).mono ?_)
 rintro y0 w0 ⟨rfl,r0,g0⟩;have R0:=qA r0;have G0:=qA g0;have hp:=Nu.gz ⟨x.toArray⟩ n e2 (by have:=iF x;rw[HX.o]at this;exact this) (VO x ζ) w0;clear r0 g0;go_wp2_with (go_at_call 249;refine hp.mono ?_)
 rintro y1 w1 ⟨rfl,b1⟩;have R1:=qA (R0.o.bl b1);have G1:=qA (qJ G0.o (jH b1));clear b1 hp;go_wp2_with (go_at_call 186;refine(yH g rb m e e2 E H X r w1 R1.o).mono ?_)
 rintro y2 w2 ⟨rfl,r2,g2⟩;go_wp2;go_ret;exact⟨rfl,r2,qJ G1.o g2⟩
theorem Vf (g rb:Nat) (m e E:Int) (v:Bool) (X:PX) (x yes no:Ψ) (r:List Ψ) (hv:(x==yes)=v) (H:Hid (fe e (if x=yes∨x=no then 0 else 3)=E)) (w:World) (h:wR g rb m e X (x::r) w):
  Calls prog 115 #[(g,0),qP yes,qP no] w λq w'=>q=.returned (v:Z)/\wR g rb m E X r w'/\Gr g w w':=by
 have HR:=qA h;clear h;by_cases h1:x=yes
 ·
  have HE:=qA (show e=E by rw[<-H.o,U6 (.inl h1),ji]);subst h1;obtain rfl:v=true:=by rw[<-hv];simp
  clear H hv;go_enter func115,ntmps115
  go_wp2_with (go_at_call 107;refine(zy g rb m e X x r w HR.o).mono ?_)
  rintro y0 w0 ⟨rfl,r0,g0⟩;go_wp2;go_ret;exact⟨rfl,by rw[<-HE.o];exact r0,g0⟩
 have n1:(x==yes)=false:=by rw[U0];exact h1
 obtain rfl:v=false:=by rw[<-hv];exact n1
 clear hv;by_cases h2:x=no
 ·
  have HE:=qA (show e=E by rw[<-H.o,U6 (.inr h2),ji]);subst h2;clear H;go_enter func115,ntmps115
  go_wp2_with (go_at_call 107;refine(zy g rb m e X x r w HR.o).mono ?_)
  rintro y0 w0 ⟨rfl,r0,g0⟩;go_wp2;go_ret;exact⟨rfl,by rw[<-HE.o];exact r0,g0⟩
 have n2:(x==no)=false:=by rw[U0];exact h2
 have HE:Hid (fe e 3=E):=by have:=H.o;rw[U5 (by rintro(k|k)<;>contradiction)]at this;exact this
 clear H;go_enter func115,ntmps115
 go_wp2_with (go_at_call 107;refine(zy g rb m e X x r w HR.o).mono ?_)
 rintro y0 w0 ⟨rfl,r0,g0⟩;have R0:=qA r0;have G0:=qA g0;clear r0 g0;go_wp2_with (go_at_call 186;refine(yH g rb m e 3 E HE X r w0 R0.o).mono ?_)
 rintro y2 w2 ⟨rfl,r2,g2⟩;go_wp2;go_ret;exact⟨rfl,r2,qJ G0.o g2⟩
theorem Kw (g rb:Nat) (m e e2 E:Int) (v:Bool) (X:PX) (x:Ψ) (r:List Ψ) (HX:Hid (yI x=(v,e2))) (H:Hid (fe e e2=E)) (w:World) (h:wR g rb m e X (x::r) w):
  Calls prog 109 #[(g,0)] w λq w'=>q=.returned (v:Z)/\wR g rb m E X r w'/\Gr g w w':=by
 have HR:=qA h;clear h;have hc:=Vf g rb m e E v X x [121,101,115] [110,111] r (qAE HX.o).1 (by have:=H.o;rw[<-(qAE HX.o).2]at this;exact this) w HR.o;go_enter func109,ntmps109
 go_wp2_with (go_at_call 115;refine hc.mono ?_)
 rintro y0 w0 ⟨rfl,r0,g0⟩;go_wp2;go_ret;exact⟨rfl,r0,g0⟩
theorem uY (x:Ψ):x=[98,111,116,104]∨x=[98,111,97,114,100]∨x=[97,108,105,103,104,116]∨x=[110,111,110,101]∨
  ((x==[98,111,116,104])=false/\(x==[98,111,97,114,100])=false/\(x==[97,108,105,103,104,116])=false/\(x==[110,111,110,101])=false/\Zp x=((false,false),3)):=by
 by_cases h1:x=[98,111,116,104]
 · exact .inl h1
 by_cases h2:x=[98,111,97,114,100]
 · exact .inr (.inl h2)
 by_cases h3:x=[97,108,105,103,104,116]
 · exact .inr (.inr (.inl h3))
 by_cases h4:x=[110,111,110,101]
 · exact .inr (.inr (.inr (.inl h4)))
 refine .inr (.inr (.inr (.inr ⟨by simpa using h1,by simpa using h2,by simpa using h3,by simpa using h4, ?_⟩)));unfold Zp Ia AP lC ae;rw[U5 h1,U5 h2,U5 h3,U5 h4]
theorem LM (g rb:Nat) (m e e2 E:Int) (p1 p2:Bool) (X:PX) (x:Ψ) (r:List Ψ) (HX:Hid (Zp x=((p1,p2),e2))) (H:Hid (fe e e2=E)) (w:World) (h:wR g rb m e X (x::r) w):
  Calls prog 117 #[(g,0)] w λq w'=>q=.returned (.tuple #[p1,p2])/\wR g rb m E X r w'/\Gr g w w':=by
 have HR:=qA h;clear h;rcases uY x with rfl|rfl|rfl|rfl|⟨n1,n2,n3,n4,hp⟩
 ·
  have hq:((true,true),(0:Int))=((p1,p2),e2):=by rw[<-HX.o];decide
  simp only[qAF]at hq;obtain⟨⟨e1,e2'⟩,e3⟩:=hq;have HE:=qA (show e=E by rw[<-H.o,<-e3,ji]);subst e1 e2';clear e3 H HX;go_enter func117,ntmps117
  go_wp2_with (go_at_call 107;refine(zy g rb m e X [98,111,116,104] r w HR.o).mono ?_)
  rintro y0 w0 ⟨rfl,r0,g0⟩;go_wp2;go_ret2;exact⟨rfl,by rw[<-HE.o];exact r0,g0⟩
 ·
  have hq:((true,false),(0:Int))=((p1,p2),e2):=by rw[<-HX.o];decide
  simp only[qAF]at hq;obtain⟨⟨e1,e2'⟩,e3⟩:=hq;have HE:=qA (show e=E by rw[<-H.o,<-e3,ji]);subst e1 e2';clear e3 H HX;go_enter func117,ntmps117
  go_wp2_with (go_at_call 107;refine(zy g rb m e X [98,111,97,114,100] r w HR.o).mono ?_)
  rintro y0 w0 ⟨rfl,r0,g0⟩;go_wp2;go_ret2;exact⟨rfl,by rw[<-HE.o];exact r0,g0⟩
 ·
  have hq:((false,true),(0:Int))=((p1,p2),e2):=by rw[<-HX.o];decide
  simp only[qAF]at hq;obtain⟨⟨e1,e2'⟩,e3⟩:=hq;have HE:=qA (show e=E by rw[<-H.o,<-e3,ji]);subst e1 e2';clear e3 H HX;go_enter func117,ntmps117
  go_wp2_with (go_at_call 107;refine(zy g rb m e X [97,108,105,103,104,116] r w HR.o).mono ?_)
  rintro y0 w0 ⟨rfl,r0,g0⟩;go_wp2;go_ret2;exact⟨rfl,by rw[<-HE.o];exact r0,g0⟩
 ·
  have hq:((false,false),(0:Int))=((p1,p2),e2):=by rw[<-HX.o];decide
  simp only[qAF]at hq;obtain⟨⟨e1,e2'⟩,e3⟩:=hq;have HE:=qA (show e=E by rw[<-H.o,<-e3,ji]);subst e1 e2';clear e3 H HX;go_enter func117,ntmps117
  go_wp2_with (go_at_call 107;refine(zy g rb m e X [110,111,110,101] r w HR.o).mono ?_)
  rintro y0 w0 ⟨rfl,r0,g0⟩;go_wp2;go_ret2;exact⟨rfl,by rw[<-HE.o];exact r0,g0⟩
 have hq:((false,false),(3:Int))=((p1,p2),e2):=by rw[<-HX.o,hp]
 simp only[qAF]at hq;obtain⟨⟨e1,e2'⟩,e3⟩:=hq;subst e1 e2' e3;clear HX hp;go_enter func117,ntmps117
 go_wp2_with (go_at_call 107;refine(zy g rb m e X x r w HR.o).mono ?_)
 rintro y0 w0 ⟨rfl,r0,g0⟩;have R0:=qA r0;have G0:=qA g0;clear r0 g0;go_wp2_with (go_at_call 186;refine(yH g rb m e 3 E H X r w0 R0.o).mono ?_)
 rintro y2 w2 ⟨rfl,r2,g2⟩;go_wp2;go_ret2;exact⟨rfl,r2,qJ G0.o g2⟩
theorem kX (g rb b n:Nat) (m e e2 E i:Int) (X:PX) (x:Ψ) (r ids:List Ψ) (HX:Hid (zW ids x=(i,e2))) (hx:x.length<=131072) (H:Hid (fe e e2=E)) (hbg:b≠g) (w:World) (h:wR g rb m e X (x::r) w) (ho:qx w b n ids):
  Calls prog 114 #[(g,0),.map (some b)] w λq w'=>q=.returned (i:Z)/\wR g rb m E X r w'/\Gr g w w':=by
 have HR:=qA h;have HO:=qA ho;clear h ho;cases hi:qm x ids with
 |some k=>
  have hq:((k:Int),(0:Int))=(i,e2):=by rw[<-HX.o];unfold zW;rw[hi]
  simp only[qAF]at hq;obtain⟨e1,e3⟩:=hq;have HE:=qA (show e=E by rw[<-H.o,<-e3,ji]);subst e1;clear e3 H HX;go_enter func114,ntmps114
  go_wp2_with (go_at_call 107;refine(zy g rb m e X x r w HR.o).mono ?_)
  rintro y0 w0 ⟨rfl,r0,g0⟩;have hlook:=(HO.o.grown g0 (by simpa using hbg)).look (x:=x) ω;rw[hi]at hlook;simp only[Option.getD_some,Option.isSome_some]at hlook;have R0:=qA r0;have G0:=qA g0;clear r0 g0 hi;go_wp2;go_ret;exact⟨rfl,by rw[<-HE.o];exact R0.o,G0.o⟩
 |none=>
  have hq:((0:Int),(9:Int))=(i,e2):=by rw[<-HX.o];unfold zW;rw[hi]
  simp only[qAF]at hq;obtain⟨e1,e3⟩:=hq;subst e1 e3;clear HX;go_enter func114,ntmps114
  go_wp2_with (go_at_call 107;refine(zy g rb m e X x r w HR.o).mono ?_)
  rintro y0 w0 ⟨rfl,r0,g0⟩;have hlook:=(HO.o.grown g0 (by simpa using hbg)).look (x:=x) ω;rw[hi]at hlook;simp only[Option.getD_none,Option.isSome_none]at hlook;have R0:=qA r0;have G0:=qA g0;clear r0 g0 hi;go_wp2_with (go_at_call 186;refine(yH g rb m e 9 E H X r w0 R0.o).mono ?_)
  rintro y2 w2 ⟨rfl,r2,g2⟩;go_wp2;go_ret;exact⟨rfl,r2,qJ G0.o g2⟩
theorem Wi (b n:Nat) (x:Ψ) (ids:List Ψ) (hx:x.length<=131072) (hn:n<maxLen) (hl:(ids.length:Int)<=9223372036854775807) (w:World) (ho:qx w b n ids):
  Calls prog 110 #[.map (some b),qP x,(ids.length:Int)] w λq w'=>q=.returned (.tuple #[])/\qx w' b (n+1) (ids++[x])/\w.grownBy w' (some b):=by
 have HO:=qA ho;have hlook:=ho.look (x:=x) ω;clear ho;cases hi:qm x ids with
 |some k=>
  rw[hi]at hlook;simp only[Option.getD_some,Option.isSome_some]at hlook;have HI:=qA hi;clear hi;go_enter func110,ntmps110
  go_wp2;go_end0;exact⟨rfl,HO.o.old HI.o,BH b w⟩
 |none=>
  rw[hi]at hlook;simp only[Option.getD_none,Option.isSome_none]at hlook;obtain⟨w1,hput,o1,g1⟩:=HO.o.put hn ω hi hl;have O1:=qA o1;have G1:=qA g1;clear hi o1 g1;go_enter func110,ntmps110
  go_wp2;go_end0;exact⟨rfl,O1.o,G1.o⟩
def eX (s:Ψ):Nat:=match ZM s with
 |some k=>wM k
 |none=>0
theorem Xk (s:Ψ):s=[115,116,111,112]∨s=[114,111,117,116,101]∨s=[99,97,108,101,110,100,97,114]∨s=[101,120,99,101,112,116,105,111,110]∨s=[116,114,105,112]∨s=[102,114,101,113,117,101,110,99,121]∨s=[116,104,114,111,117,103,104]∨s=[103,117,97,114,97,110,116,101,101]∨s=[112,97,116,104]∨s=[112,114,111,100,117,99,116]∨s=[99,97,108,108]∨s=[102,97,114,101,115]∨
  ((s==[115,116,111,112])=false/\(s==[114,111,117,116,101])=false/\(s==[99,97,108,101,110,100,97,114])=false/\(s==[101,120,99,101,112,116,105,111,110])=false/\(s==[116,114,105,112])=false/\(s==[102,114,101,113,117,101,110,99,121])=false/\(s==[116,104,114,111,117,103,104])=false/\(s==[103,117,97,114,97,110,116,101,101])=false/\(s==[112,97,116,104])=false/\(s==[112,114,111,100,117,99,116])=false/\(s==[99,97,108,108])=false/\(s==[102,97,114,101,115])=false/\ZM s=none):=by
 by_cases h0:s=[115,116,111,112]
 · exact .inl h0
 by_cases h1:s=[114,111,117,116,101]
 · exact .inr (.inl h1)
 by_cases h2:s=[99,97,108,101,110,100,97,114]
 · exact .inr (.inr (.inl h2))
 by_cases h3:s=[101,120,99,101,112,116,105,111,110]
 · exact .inr (.inr (.inr (.inl h3)))
 by_cases h4:s=[116,114,105,112]
 · exact .inr (.inr (.inr (.inr (.inl h4))))
 by_cases h5:s=[102,114,101,113,117,101,110,99,121]
 · exact .inr (.inr (.inr (.inr (.inr (.inl h5)))))
 by_cases h6:s=[116,104,114,111,117,103,104]
 · exact .inr (.inr (.inr (.inr (.inr (.inr (.inl h6))))))
 by_cases h7:s=[103,117,97,114,97,110,116,101,101]
 · exact .inr (.inr (.inr (.inr (.inr (.inr (.inr (.inl h7)))))))
 by_cases h8:s=[112,97,116,104]
 · exact .inr (.inr (.inr (.inr (.inr (.inr (.inr (.inr (.inl h8))))))))
 by_cases h9:s=[112,114,111,100,117,99,116]
 · exact .inr (.inr (.inr (.inr (.inr (.inr (.inr (.inr (.inr (.inl h9)))))))))
 by_cases h10:s=[99,97,108,108]
 · exact .inr (.inr (.inr (.inr (.inr (.inr (.inr (.inr (.inr (.inr (.inl h10))))))))))
 by_cases h11:s=[102,97,114,101,115]
 · exact .inr (.inr (.inr (.inr (.inr (.inr (.inr (.inr (.inr (.inr (.inr (.inl h11)))))))))))
 refine .inr (.inr (.inr (.inr (.inr (.inr (.inr (.inr (.inr (.inr (.inr (.inr (⟨by simpa using h0,by simpa using h1,by simpa using h2,by simpa using h3,by simpa using h4,by simpa using h5,by simpa using h6,by simpa using h7,by simpa using h8,by simpa using h9,by simpa using h10,by simpa using h11, ?_⟩))))))))))));unfold ZM Vj;simp only[qm];rw[U5 (λe=>h0 e.symm),U5 (λe=>h1 e.symm),U5 (λe=>h2 e.symm),U5 (λe=>h3 e.symm),U5 (λe=>h4 e.symm),U5 (λe=>h5 e.symm),U5 (λe=>h6 e.symm),U5 (λe=>h7 e.symm),U5 (λe=>h8 e.symm),U5 (λe=>h9 e.symm),U5 (λe=>h10 e.symm),U5 (λe=>h11 e.symm)];rfl
theorem BB (s:Ψ) (n:Nat) (H:Hid (eX s=n)) (w:World):
  Calls prog 40 #[qP s] w λq w'=>q=.returned (n:Z)/\w'=w:=by
 rcases Xk s with rfl|rfl|rfl|rfl|rfl|rfl|rfl|rfl|rfl|rfl|rfl|rfl|⟨n0,n1,n2,n3,n4,n5,n6,n7,n8,n9,n10,n11,hk⟩
 ·
  obtain rfl:5=n:=by rw[<-H.o];decide
  clear H;go_enter func40,ntmps40
  go_wp2;go_ret;exact⟨rfl,rfl⟩
 ·
  obtain rfl:4=n:=by rw[<-H.o];decide
  clear H;go_enter func40,ntmps40
  go_wp2;go_ret;exact⟨rfl,rfl⟩
 ·
  obtain rfl:5=n:=by rw[<-H.o];decide
  clear H;go_enter func40,ntmps40
  go_wp2;go_ret;exact⟨rfl,rfl⟩
 ·
  obtain rfl:4=n:=by rw[<-H.o];decide
  clear H;go_enter func40,ntmps40
  go_wp2;go_ret;exact⟨rfl,rfl⟩
 ·
  obtain rfl:5=n:=by rw[<-H.o];decide
  clear H;go_enter func40,ntmps40
  go_wp2;go_ret;exact⟨rfl,rfl⟩
 ·
  obtain rfl:5=n:=by rw[<-H.o];decide
  clear H;go_enter func40,ntmps40
  go_wp2;go_ret;exact⟨rfl,rfl⟩
 ·
  obtain rfl:3=n:=by rw[<-H.o];decide
  clear H;go_enter func40,ntmps40
  go_wp2;go_ret;exact⟨rfl,rfl⟩
 ·
  obtain rfl:4=n:=by rw[<-H.o];decide
  clear H;go_enter func40,ntmps40
  go_wp2;go_ret;exact⟨rfl,rfl⟩
 ·
  obtain rfl:5=n:=by rw[<-H.o];decide
  clear H;go_enter func40,ntmps40
  go_wp2;go_ret;exact⟨rfl,rfl⟩
 ·
  obtain rfl:7=n:=by rw[<-H.o];decide
  clear H;go_enter func40,ntmps40
  go_wp2;go_ret;exact⟨rfl,rfl⟩
 ·
  obtain rfl:5=n:=by rw[<-H.o];decide
  clear H;go_enter func40,ntmps40
  go_wp2;go_ret;exact⟨rfl,rfl⟩
 ·
  obtain rfl:4=n:=by rw[<-H.o];decide
  clear H;go_enter func40,ntmps40
  go_wp2;go_ret;exact⟨rfl,rfl⟩
 obtain rfl:0=n:=by rw[<-H.o];unfold eX;rw[hk]
 clear H hk;go_enter func40,ntmps40
 go_wp2;go_ret;exact⟨rfl,rfl⟩
