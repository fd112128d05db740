/- Part of the proof of FnServiceAnswer. -/
import Derived.Shelf.Small.Utf8
import Derived.Shelf.Small.Wraps
import Derived.Shelf.Strconv.Itoa3
import Derived.Shelf.Strings.AsciiSet
import Derived.Shelf.Strings.BuilderK
import Derived.Shelf.Strings.OnBuilder
import Derived.Shelf.Strings.Runes
import Derived.Shelf.Strings.Shaped
import Derived.Shelf.Strings.SplitShaped
import Derived.Shelf.Strings.Trim
import Derived.Shelf.Unicode.DecodeSlow
import Derived.Test.YtjciicheoghcdaaGreatDoorProg
import Derived.Test.YtjciicheoghcdaaGreatDoorUn
namespace Go.Proofs.YtjciicheoghcdaaGreatDoor
open Go.RowKit
set_option linter.all false
set_option maxRecDepth 20000
set_option maxHeartbeats 16000000
section
attribute [local go_sem] af ah ae
theorem eF {T:TypeId} {s:Nat} {u:Value} {a b:List Value} {wi:World} {gj n c base:Nat} {pre:List Value} (h:VO wi base T s (some ⟨gj,0,none⟩) n c (pre++(a++u::b))) {i:Nat} (hi:i=pre.length+a.length):wi.cell? ⟨gj,i,none⟩=some u:=by
 have hl:=h.len;rw[h.cell i (by simp at hl;omega),hi,List.getElem?_append_right (by omega),Nat.add_sub_cancel_left,List.getElem?_append_right Ql,Nat.sub_self]
 rfl
theorem gp {w:World} {T:TypeId} {s base n c gj j:Nat} {pre a b:List Value} {u:Value} (h:VO w base T s (some ⟨gj,0,none⟩) n c (pre++(a++u::b))) (hj:j=pre.length+a.length) (v:Value):VO (w.setCell ⟨gj,j,none⟩ v) base T s (some ⟨gj,0,none⟩) n c (pre++(a++v::b)):=by
 have:=h.store j v;subst hj;rw[List.set_append_right _ _ (by omega),Nat.add_sub_cancel_left,List.set_append_right _ _ Ql,Nat.sub_self,List.set_cons_zero] at this
 exact this
theorem yC {w:World} {T:TypeId} {s base n c gj i:Nat} {pre b:List Value} {u0 u1 u2 u3 u4 u5:Value} (h:VO w base T s (some ⟨gj,0,none⟩) n c (pre++(u0::u1::u2::u3::u4::u5::b))) (hj:i=pre.length) (v0 v1 v2 v3 v4 v5:Value) :
  VO ((((((w.setCell ⟨gj,i,none⟩ v0).setCell ⟨gj,i+1,none⟩ v1).setCell ⟨gj,i+2,none⟩ v2).setCell ⟨gj,i+3,none⟩ v3).setCell ⟨gj,i+4,none⟩ v4).setCell ⟨gj,i+5,none⟩ v5) base T s (some ⟨gj,0,none⟩) n c (pre++(v0::v1::v2::v3::v4::v5::b)):=by
 have h0:=gp (a:=[]) (u:=u0) h (j:=i) (by simp[hj]) v0
 have h1:=gp (a:=[v0]) (u:=u1) (b:=u2::u3::u4::u5::b) (by simpa using h0) (j:=i+1) (by simp[hj]) v1
 have h2:=gp (a:=[v0,v1]) (u:=u2) (b:=u3::u4::u5::b) (by simpa using h1) (j:=i+2) (by simp[hj]) v2
 have h3:=gp (a:=[v0,v1,v2]) (u:=u3) (b:=u4::u5::b) (by simpa using h2) (j:=i+3) (by simp[hj]) v3
 have h4:=gp (a:=[v0,v1,v2,v3]) (u:=u4) (b:=u5::b) (by simpa using h3) (j:=i+4) (by simp[hj]) v4
 have h5:=gp (a:=[v0,v1,v2,v3,v4]) (u:=u5) (b:=b) (by simpa using h4) (j:=i+5) (by simp[hj]) v5
 simpa using h5
def FC {α:Type} (E:Elt α) (w:World) (base:Nat) (T:TypeId) (A:Option Addr) (n c:Nat) (css:List (List Value)) (rest:List Value) (xs:List α) (F:List Nat):Prop :=
 VO w base T E.s A n c (css.flatten++rest)/\dJ E w css xs F/\Fr w base F/\∀ g,blk A=some g->g∉F
theorem FC.step {α:Type} {E:Elt α} {w w':World} {base n c:Nat} {T:TypeId} {A:Option Addr} {css:List (List Value)} {xs:List α} {F F1:List Nat} {ys rest:List Value} {x:α} (hv:VO w' base T E.s A n c (css.flatten++(ys++rest))) (he:dJ E w css xs F) (hf:Fr w base F) (hg:∀ g,blk A=some g->g∉F) (hk:∀ g',g'∈F->w'.heap[g']?=w.heap[g']?)
  (hx:E.P w' ys x F1) (hf1:Fr w' base F1) (hd:∀ g',g'∈F1->g'∉F/\blk A≠some g'):FC E w' base T A n c (css++[ys]) rest (xs++[x]) (F++F1) :=
 ⟨by rw[List.flatten_append,List.append_assoc];simpa using hv,(he.au hk).push hx,(hf.au hk).app hf1 (fun g' h1 h2=>(hd g' h2).1 h1),fun g h hm=>(List.mem_append.1 hm).elim (hg g h) (fun h2=>(hd g h2).2 h)⟩
theorem FC.ox {α:Type} {E:Elt α} {w:World} {base n c:Nat} {T:TypeId} {A:Option Addr} {css:List (List Value)} {xs:List α} {F:List Nat} (h:FC E w base T A n c css [] xs F) (hn:xs.length=n):OX E w base T A n c css xs F:=⟨by have:=h.1;rwa [List.append_nil] at this,hn,h.2.1,h.2.2.1,h.2.2.2⟩
def vC (net:List SL) (s:Int) (w:World) (e:Ending) (w':World):Prop:=∃ A c css F,e= .returned (.agg #[.slice A net.length c,.int .i64 s])/\OX (kE smE) w' w.heap.size 99 A net.length c css net F/\Below w.heap.size w w'
def CJ (base:Nat) (w:World) (net:List SL) (css0:List (List Value)) (A:Option Addr) (n c:Nat) (wo:World) (j:Nat):Prop:=(∃ css F,FC (kE smE) wo base 99 A n c css (css0.drop j).flatten (net.take j) F)/\Below w.heap.size w wo
def CI (base gj n c:Nat) (kd:Int) (pre rest:List Value) (ms:List (Mx×Mx)) (cssW:List (List Value)) (A:Option Addr) (m cm:Nat) (wo wi:World) (k:Nat):Prop :=
 VO wi base 99 2 (some ⟨gj,0,none⟩) n c (pre++([.int .i64 kd] ++ .slice A m cm::rest))/\(∃ css F,FC smE wi wo.heap.size 82 A m cm css (cssW.drop k).flatten (ms.take k) F)/\aZ gj wo wi
theorem pf {css:List (List Value)} {j:Nat} {cs:List Value} (h:css[j]?=some cs):(css.drop j).flatten=cs++(css.drop (j+1)).flatten:=by
 obtain⟨h1,h2⟩:=List.getElem?_eq_some_iff.1 h;rw[List.drop_eq_getElem_cons h1,List.flatten_cons,h2]
theorem kU {l:SL} (h:aL l.1 (l.2.map aq)=true):l.2.length<=3:=by
 rcases mV h with⟨_,a,b,e,_⟩|⟨_,e⟩|⟨_,a,b,c,e,_⟩ <;> rw[e] <;> simp
theorem mW {l:SL} (h:aL l.1 (l.2.map aq)=true):∀ p,p∈l.2->okS p=true:=by
 intro p hp;rcases mV h with⟨_,a,b,e,h1,h2,_⟩|⟨_,e⟩|⟨_,a,b,c,e,h1,h2,h3,_⟩ <;> rw[e] at hp <;> simp at hp
 ·rcases hp with rfl|rfl <;> assumption
 ·rcases hp with rfl|rfl|rfl <;> assumption
theorem bg {net:List SL} {s:Int} (hok:bu net=true) {A:Option Addr} {cap:Nat} {F:List Nat} (w:World) (hx:RI (kE smE) w A net.length cap net F) :
  Calls Tryz.prog 36 #[.agg #[.slice A net.length cap,.int .i64 s]] w (vC net s w):=by
 obtain⟨n,hn⟩:∃ n,n=net.length:=⟨_,rfl⟩;have h4:n<=4:=by rw[hn];exact(du hok).1
 rw[<-hn] at hx ⊢;have HX:=Qh hx;have HOK:=Qh hok;have HN:=Qh hn;clear hx hok hn
 go_enter Tryz.func36,Tryz.ntmps36
 go_wp2_with fail
 obtain⟨uw1,hu⟩:∃ u,u=((w.alloc (.cells #[.slice A n cap,.int .i64 s] 25)).alloc (.cells #[.slice none 0 0,.int .i64 0] 25)):=⟨_,rfl⟩;rw[<-hu];have B1:Blk uw1 (w.heap.size) 25 #[.slice A n cap,.int .i64 s]:=Blk.cast hu ((Blk.iA (by first|omega|(simp;done)|(simp;omega))).alloc _)
 have B2:Blk uw1 (w.heap.size+1) 25 #[.slice none 0 0,.int .i64 0]:=Blk.cast hu (Blk.iA (by first|omega|(simp;done)|(simp;omega)))
 have O:Below w.heap.size w uw1:=Below.cast hu ((Qb.alloc (by first|omega|(simp;done)|(simp;omega)) _).alloc (by first|omega|(simp;done)|(simp;omega)) _)
 have mw:=O.size;clear hu;have hub:=B2.lt;refine(uJ w uw1 HX.out O (by omega)).mono ?_
 rintro e w2 ⟨A1,c1,css0,F0,rfl,hvo,hel,hb⟩;have HVO:=Qh hvo;have HEL:=Qh hel;clear hvo hel;replace B1:=B1.aa hb;replace B2:=B2.aa hb;replace O:=O.trans (hb.mono mw);replace mw:=O.size;clear hb;obtain⟨z1,c1_0,f1_0,c1_1,f1_1⟩:=B1.f2;obtain⟨z2,c2_0,f2_0,c2_1,f2_1⟩:=B2.f2;clear z1 c1_0 f1_0 c1_1 f1_1 z2 c2_0 f2_0 c2_1 f2_1;have H0:Hid (CJ uw1.heap.size w net css0 A1 n c1 w2 0):=⟨⟨[],[],by simpa using HVO.out,rfl,Fr.nil _ _,fun _ _ h=>by cases h⟩,O⟩
 have HB1:=Qh B1;have HB2:=Qh B2;clear HVO B1 B2 O mw;go_wp2
 go_loopw [13] (fun i wr=>∃ j:Nat,j<=n/\i= .int .i64 j/\Hid (CJ uw1.heap.size w net css0 A1 n c1 wr j)/\Hid (Blk wr w.heap.size 25 #[.slice A n cap,.int .i64 s])/\Hid (Blk wr (w.heap.size+1) 25 #[.slice none 0 0,.int .i64 0])) (fun i _=>n-(intOf i).toNat)
 case atStart=>exact⟨0,Nat.zero_le _,rfl,H0,HB1,HB2⟩
 case round =>
 clear H0 HB1 HB2;obtain⟨j,hj,rfl,hcj,HB1,HB2⟩:=hrel;obtain⟨wo,rfl⟩:∃ u:World,u=wr:=⟨_,rfl⟩;obtain⟨⟨css,FO,hF⟩,hob⟩:=hcj.out;have HOB:=Qh hob;clear hcj hob
 by_cases hlt:j<n
 ·obtain⟨l,hlj,hmem⟩:=aH (xs:=net) (j:=j) (by have:=HN.out;omega)
  obtain⟨cs,Fl,hcs,hFl,hP⟩:=HEL.out.at j l hlj;obtain⟨Aw,cw,rfl,hrw⟩:=hP;have hm3:=kU ((du HOK.out).2 l hmem);have hokm:=mW ((du HOK.out).2 l hmem);obtain⟨m,hm⟩:∃ m,m=l.2.length:=⟨_,rfl⟩;rw[<-hm] at hrw hm3;rw[pf hcs,<-hm] at hF;obtain⟨g0,rfl,hg0,hg1⟩:=hF.1.pos (by omega)
  have hpl:css.flatten.length=j*2:=by
   rw[dS hF.2.1,List.length_take,Nat.min_eq_left (by have:=HN.out;omega)]
   rfl
  have hwo:w.heap.size<=wo.heap.size:=HOB.out.size;obtain⟨pre,hpre⟩:∃ pre,pre=css.flatten:=⟨_,rfl⟩;obtain⟨rest,hrest⟩:∃ rest,rest=(css0.drop (j+1)).flatten:=⟨_,rfl⟩;have hv:=hF.1;rw[<-hpre,<-hrest] at hv;rw[<-hpre] at hpl;have HPL:=Qh hpl;have HPRE:=Qh hpre;have HREST:=Qh hrest;have HFO:=Qh hF;have HV:=Qh hv;have HRW:=Qh hrw;have HM:=Qh hm;have HLJ:=Qh hlj;have HOKM:=Qh hokm;have n1:=hv.gu HB1.out (by decide)
  have n2:=hv.gu HB2.out (by decide)
  have hn1:w.heap.size≠g0:=fun e=>n1 (by rw[e];rfl)
  have hn2:w.heap.size+1≠g0:=fun e=>n2 (by rw[e];rfl)
  have d0:wo.cell? ⟨g0,j*2,none⟩=some (.int .i64 l.1):=eF (a:=[]) hv (by rw[HPL.out];rfl)
  have d1:wo.cell? ⟨g0,j*2+1,none⟩=some (.slice Aw m cw):=eF (a:=[.int .i64 l.1]) hv (by rw[HPL.out];rfl)
  have k0:(0:Int)<=(j:Int):=by omega
  have k1:(j:Int)<(n:Int):=by omega
  clear hF hcs hFl hlj hmem hm hrw hpl hpre hrest hv hokm n1 n2
  go_wp2_with fail
  obtain⟨u,hu⟩:∃ u,u=wo.alloc (.cells #[.int .i64 l.1,.slice Aw m cw] 99):=⟨_,rfl⟩;rw[<-hu];have hbu:Below wo.heap.size wo u:=Below.cast hu (Qb.alloc Ql _);clear hu;refine(uK w u HRW.out (HOB.out.trans (hbu.mono hwo)) (by omega)).mono ?_
  rintro e w5 ⟨A2,c2,cssW,FW,rfl,hvo2,hel2,hb2⟩;have hb5:Below wo.heap.size wo w5:=hbu.trans (hb2.mono hbu.size);have HEL2:=Qh hel2;have hgl:g0<wo.heap.size:=hg1;have e0:w5.cell? ⟨g0,j*2+1,none⟩=some (.slice Aw m cw):=(hb5.cell (p:=⟨g0,j*2+1,none⟩) hgl).trans d1;have e1:w5.frozen? ⟨g0,j*2+1,none⟩=false:=(HV.out.below hb5).frozen _;have hv6:VO (w5.setCell ⟨g0,j*2+1,none⟩ (.slice A2 m c2)) uw1.heap.size 99 2 (some ⟨g0,0,none⟩) n c1 (pre++([.int .i64 l.1] ++ .slice A2 m c2::rest)):=gp (a:=[.int .i64 l.1]) (HV.out.below hb5) (by rw[HPL.out];rfl) _
  have e2:(w5.setCell ⟨g0,j*2+1,none⟩ (.slice A2 m c2)).cell? ⟨g0,j*2+1,none⟩=some (.slice A2 m c2):=eF (a:=[.int .i64 l.1]) hv6 (by rw[HPL.out];rfl)
  have J0:Hid (CI uw1.heap.size g0 n c1 l.1 pre rest l.2 cssW A2 m c2 wo (w5.setCell ⟨g0,j*2+1,none⟩ (.slice A2 m c2)) 0):=⟨hv6,⟨[],[],by simpa using (hvo2.mono hbu.size).lX (by dsimp only;omega) _,rfl,Fr.nil _ _,fun _ _ h=>by cases h⟩,((aZ.refl g0 wo).below hb5).setCell (.inl rfl) _⟩
  have zg5:g0<w5.heap.size:=Nat.lt_of_lt_of_le hgl hb5.size;clear hvo2 hel2 hb2 hbu hb5 hv6 d0 d1;go_wp2;clear e0 e1 e2 zg5
  go_loopw [31] (fun i wr=>∃ k:Nat,k<=m/\i= .int .i64 k/\Hid (CI uw1.heap.size g0 n c1 l.1 pre rest l.2 cssW A2 m c2 wo wr k)) (fun i _=>m-(intOf i).toNat)
  case atStart=>exact⟨0,Nat.zero_le _,rfl,J0⟩
  case round =>
  clear J0;obtain⟨k,hk,rfl,hci⟩:=hrel;obtain⟨hV,⟨cssI,FI,hFI⟩,hOn⟩:=hci.out;have hsz:wo.heap.size<=wr.heap.size:=hOn.size;have HBW:Hid (Below w.heap.size w wr):=HOB.out.trans (hOn.toBelow (by omega) (by omega))
  have cj:wr.cell? ⟨g0,j*2+1,none⟩=some (.slice A2 m c2):=eF (a:=[.int .i64 l.1]) hV (by rw[HPL.out];rfl)
  have zgl:g0<wr.heap.size:=by omega
  have HV2:=Qh hV;have HON:=Qh hOn;clear hV hOn hci
  by_cases hkm:k<m
  ·obtain⟨p,hpk,hpm⟩:=aH (xs:=l.2) (j:=k) (by have:=HM.out;omega)
   obtain⟨cs,Fp,hcs,hFp,P1,q1,P2,q2,Fa,Fb,rfl,hp1,hp2,_⟩:=HEL2.out.at k p hpk;have hpo:=HOKM.out p hpm;have HMV:=Qh (And.intro (ai hpo).1 (ai hpo).2.1);have hRS:=RS.mk (p:=p) hp1.1 hp1.2.1 hp1.2.2.1 hp2.1 hp2.2.1 hp2.2.2.1;have HRS:=Qh (hRS.below HBW.out);rw[pf hcs] at hFI;obtain⟨h2,rfl,hh0,hh1⟩:=hFI.1.pos (by omega)
   have hil:cssI.flatten.length=k*6:=by
    rw[dS hFI.2.1,List.length_take,Nat.min_eq_left (by have:=HM.out;omega)]
    rfl
   have HIL:=Qh hil;have hvi:=hFI.1;have a0:wr.cell? ⟨h2,k*6,none⟩=some (.int .i64 p.1.r):=eF (a:=[]) hvi (by simp[HIL.out])
   have a1:wr.cell? ⟨h2,k*6+1,none⟩=some (.int .i64 p.1.c):=eF (a:=[.int .i64 p.1.r]) hvi (by simp[HIL.out])
   have a2:wr.cell? ⟨h2,k*6+2,none⟩=some (.slice P1 p.1.v.length q1):=eF (a:=[.int .i64 p.1.r,.int .i64 p.1.c]) hvi (by simp[HIL.out])
   have a3:wr.cell? ⟨h2,k*6+3,none⟩=some (.int .i64 p.2.r):=eF (a:=[.int .i64 p.1.r,.int .i64 p.1.c,.slice P1 p.1.v.length q1]) hvi (by simp[HIL.out])
   have a4:wr.cell? ⟨h2,k*6+4,none⟩=some (.int .i64 p.2.c):=eF (a:=[.int .i64 p.1.r,.int .i64 p.1.c,.slice P1 p.1.v.length q1,.int .i64 p.2.r]) hvi (by simp[HIL.out])
   have a5:wr.cell? ⟨h2,k*6+5,none⟩=some (.slice P2 p.2.v.length q2):=eF (a:=[.int .i64 p.1.r,.int .i64 p.1.c,.slice P1 p.1.v.length q1,.int .i64 p.2.r,.int .i64 p.2.c]) hvi (by simp[HIL.out])
   have HVI0:=Qh hvi;have HFI:=Qh hFI;have HPK:=Qh hpk;have j0:(0:Int)<=(k:Int):=by omega
   have j1:(k:Int)<(m:Int):=by omega
   clear hcs hFp hp1 hp2 hpo hRS hFI hil hvi hpk hpm
   go_wp2_with fail
   obtain⟨uw61,hu⟩:∃ u,u=(wr.alloc (.cells #[.int .i64 p.1.r,.int .i64 p.1.c,.slice P1 p.1.v.length q1,.int .i64 p.2.r,.int .i64 p.2.c,.slice P2 p.2.v.length q2] 82)):=⟨_,rfl⟩;rw[<-hu];have B31:Blk uw61 (wr.heap.size) 82 #[.int .i64 p.1.r,.int .i64 p.1.c,.slice P1 p.1.v.length q1,.int .i64 p.2.r,.int .i64 p.2.c,.slice P2 p.2.v.length q2]:=Blk.cast hu (Blk.iA (by first|omega|(simp;done)|(simp;omega)))
   have O:Below wr.heap.size wr uw61:=Below.cast hu (Qb.alloc (by first|omega|(simp;done)|(simp;omega)) _)
   have mw:=O.size;have zg2:=Nat.lt_of_lt_of_le zgl O.size;have cj2:=(O.cell (p:=⟨g0,j*2+1,none⟩) zgl).trans cj;clear hu;obtain⟨S,KP,KQ,KA,KU,KC⟩:=BK (u:=uw61) [wr.heap.size,g0] (by intro i hi;simp only[List.mem_cons,List.not_mem_nil,or_false] at hi;rcases hi with rfl|rfl;exact B31.lt;exact zg2)
   have g31_0:∀ zw:Wd S,zw.w.cell? ⟨wr.heap.size,0,none⟩=some (.int .i64 p.1.r):=fun zw=>(KC.out zw _ (by simp) _).trans (B31.cell 0)
   have g31_1:∀ zw:Wd S,zw.w.cell? ⟨wr.heap.size,1,none⟩=some (.int .i64 p.1.c):=fun zw=>(KC.out zw _ (by simp) _).trans (B31.cell 1)
   have g31_2:∀ zw:Wd S,zw.w.cell? ⟨wr.heap.size,2,none⟩=some (.slice P1 p.1.v.length q1):=fun zw=>(KC.out zw _ (by simp) _).trans (B31.cell 2)
   have g31_3:∀ zw:Wd S,zw.w.cell? ⟨wr.heap.size,3,none⟩=some (.int .i64 p.2.r):=fun zw=>(KC.out zw _ (by simp) _).trans (B31.cell 3)
   have g31_4:∀ zw:Wd S,zw.w.cell? ⟨wr.heap.size,4,none⟩=some (.int .i64 p.2.c):=fun zw=>(KC.out zw _ (by simp) _).trans (B31.cell 4)
   have g31_5:∀ zw:Wd S,zw.w.cell? ⟨wr.heap.size,5,none⟩=some (.slice P2 p.2.v.length q2):=fun zw=>(KC.out zw _ (by simp) _).trans (B31.cell 5)
   have gg0:∀ zw:Wd S,zw.w.cell? ⟨g0,j*2+1,none⟩=some (.slice (some ⟨h2,0,none⟩) m c2):=fun zw=>(KC.out zw _ (by simp) _).trans cj2
   refine dZ noX true S (by kernel_rfl) (by kernel_rfl) (fun _=>by kernel_rfl) (KP.out _ Qb.drew) ?_
   intro hne;have hb:=(Below.refl uw61.heap.size uw61).drew;obtain⟨w62,hd⟩:∃ u,u=uw61.drew:=⟨_,rfl⟩;rw[<-hd] at hb ⊢
   (try simp only[Nat.add_assoc,Nat.reduceAdd])
   clear hd;have hS:=Qh (KP.out _ hb);replace B31:=B31.aa hb;replace O:=O.trans (hb.mono mw);replace mw:=O.size;clear hb
   repeat (first|(refine aF (by rfl) (by rfl) ?_;intro K hK;go_big_quiet_op;go_big_quiet_on)|(refine aG (by rfl) ?_))
   refine bj (by rfl) (by rfl) (fun K hK=>?_)
   unfold Oper.gives
   go_simp
   refine(tZ (q:=p) (f:=63) (caps:=#[]) w62 (RS.below HRS.out O) (fun _ _=>by kernel_rfl) ⟨fun W v _ hv=>ep HMV.out.1 W hv,fun W v _ hv=>ep HMV.out.2 W hv⟩).mono ?_
   rintro e w63 ⟨X,Y,x1,y1,rfl,f1,f2,f3,hb⟩;replace hS:=Qh (KU _ _ (fun _=>False) (UpL.eW hb) (fun _ _ e=>e) hS.out)
   refine⟨_,rfl,hK _ _ ⟨⟨_,hS.out⟩,rfl⟩ ?_⟩;clear hK K;have G1:=f1.mono (base':=wr.heap.size) mw;have G2:=f2.mono (base':=wr.heap.size) mw;replace B31:=B31.aa hb;replace O:=O.trans (hb.mono mw);replace mw:=O.size;clear f1 f2;clear hb
   repeat (first|(refine aF (by rfl) (by rfl) ?_;intro K hK;go_big_quiet_op;go_big_quiet_on)|(refine aG (by rfl) ?_))
   have HVI:=HVI0.out.below O;have s0:w63.cell? ⟨h2,k*6,none⟩=some (.int .i64 p.1.r):=by first|exact eF (a:=[]) HVI (by simp[HIL.out])
   have s1:w63.cell? ⟨h2,k*6+1,none⟩=some (.int .i64 p.1.c):=by first|exact eF (a:=[.int .i64 p.1.r]) HVI (by simp[HIL.out])
   have s2:w63.cell? ⟨h2,k*6+2,none⟩=some (.slice P1 p.1.v.length q1):=by first|exact eF (a:=[.int .i64 p.1.r,.int .i64 p.1.c]) HVI (by simp[HIL.out])
   have s3:w63.cell? ⟨h2,k*6+3,none⟩=some (.int .i64 p.2.r):=by first|exact eF (a:=[.int .i64 p.1.r,.int .i64 p.1.c,.slice P1 p.1.v.length q1]) HVI (by simp[HIL.out])
   have s4:w63.cell? ⟨h2,k*6+4,none⟩=some (.int .i64 p.2.c):=by first|exact eF (a:=[.int .i64 p.1.r,.int .i64 p.1.c,.slice P1 p.1.v.length q1,.int .i64 p.2.r]) HVI (by simp[HIL.out])
   have s5:w63.cell? ⟨h2,k*6+5,none⟩=some (.slice P2 p.2.v.length q2):=by first|exact eF (a:=[.int .i64 p.1.r,.int .i64 p.1.c,.slice P1 p.1.v.length q1,.int .i64 p.2.r,.int .i64 p.2.c]) HVI (by simp[HIL.out])
   have t0:=HVI.frozen (k*6);have t1:=HVI.frozen (k*6+1);have t2:=HVI.frozen (k*6+2);have t3:=HVI.frozen (k*6+3);have t4:=HVI.frozen (k*6+4);have t5:=HVI.frozen (k*6+5);refine aV rfl (by rfl) (by rfl) (fun K hK=>?_)
   unfold Oper.gives
   go_simp
   refine hK _ _ ?_;clear hK K s0 t0 s1 t1 s2 t2 s3 t3 s4 t4 s5 t5
   repeat (first|(refine aF (by rfl) (by rfl) ?_;intro K hK;go_big_quiet_op;go_big_quiet_on)|(refine aG (by rfl) ?_))
   refine aI ?_;clear hne KP KQ KA KU KC hS g31_0 g31_1 g31_2 g31_3 g31_4 g31_5;obtain⟨uZ,hZ⟩:∃ u,u=((((((w63.setCell ⟨h2,k*6,none⟩ (.int .i64 p.1.r)).setCell ⟨h2,k*6+1,none⟩ (.int .i64 p.1.c)).setCell ⟨h2,k*6+2,none⟩ (.slice X p.1.v.length x1)).setCell ⟨h2,k*6+3,none⟩ (.int .i64 p.2.r)).setCell ⟨h2,k*6+4,none⟩ (.int .i64 p.2.c)).setCell ⟨h2,k*6+5,none⟩ (.slice Y p.2.v.length y1)):=⟨_,rfl⟩;rw[<-hZ];have hhb:uw1.heap.size<=h2:=by omega
   have hhg:g0≠h2:=by omega
   have V6:VO uZ wo.heap.size 82 6 (some ⟨h2,0,none⟩) m c2 (cssI.flatten++([.int .i64 p.1.r,.int .i64 p.1.c,.slice X p.1.v.length x1,.int .i64 p.2.r,.int .i64 p.2.c,.slice Y p.2.v.length y1]++(cssW.drop (k+1)).flatten)):=by rw[hZ];exact yC (HVI0.out.below O) HIL.out.symm _ _ _ _ _ _
   have VO6:VO uZ uw1.heap.size 99 2 (some ⟨g0,0,none⟩) n c1 (pre++([.int .i64 l.1] ++ .slice (some ⟨h2,0,none⟩) m c2::rest)):=by
    rw[hZ];have:=HV2.out.below O
    exact(((((this.far (by simpa [blk] using hhg) _).far (by simpa [blk] using hhg) _).far (by simpa [blk] using hhg) _).far (by simpa [blk] using hhg) _).far (by simpa [blk] using hhg) _).far (by simpa [blk] using hhg) _
   have On6:aZ h2 w63 uZ:=by rw[hZ];exact(aZ.refl _ _).s1.s1.s1.s1.s1.s1
   have ON6:aZ g0 wo uZ:=by
    rw[hZ]
    exact((((((HON.out.below O).setCell (.inr hh0) _).setCell (.inr hh0) _).setCell (.inr hh0) _).setCell (.inr hh0) _).setCell (.inr hh0) _).setCell (.inr hh0) _
   have kg1:∀ g',g'∈fpI X p.1.v.length++fpI Y p.2.v.length->uZ.heap[g']?=w63.heap[g']?:=fun g' hg'=>On6.block g' (by rcases List.mem_append.1 hg' with h|h;exact(G1.aj _ (bz h).2).2;exact(G2.aj _ (bz h).2).2) (fun e=>by
    have e':h2=g':=by first|(injection e with e1;exact e1)|(injection e with e1;exact e1.symm)
    rcases List.mem_append.1 hg' with h|h
    ·have:=(G1.aj _ (bz h).2).1;omega
    ·have:=(G2.aj _ (bz h).2).1;omega)
   have hQ:smE.P uZ [.int .i64 p.1.r,.int .i64 p.1.c,.slice X p.1.v.length x1,.int .i64 p.2.r,.int .i64 p.2.c,.slice Y p.2.v.length y1] p (fpI X p.1.v.length++fpI Y p.2.v.length):=smE.au _ _ _ _ _ ⟨X,x1,Y,y1,_,_,rfl,MF.aB G1,MF.aB G2,rfl⟩ kg1;have hFR:Fr uZ wr.heap.size (fpI X p.1.v.length++fpI Y p.2.v.length):=Fr.au (Fr.app (ek G1) (ek G2) (fun g h1 h2=>f3 g (bz h1).2 (bz h2).2)) kg1
   have hst:=FC.step (E:=smE) (css:=cssI) (A:=some ⟨h2,0,none⟩) V6 HFI.out.2.1 HFI.out.2.2.1 HFI.out.2.2.2 (fun g' hg'=>(On6.block g' (Nat.lt_of_lt_of_le (HFI.out.2.1.lt g' hg') O.size) (fun e=>HFI.out.2.2.2 g' (by first|exact e|exact e.symm) hg')).trans (O.block g' (HFI.out.2.1.lt g' hg'))) hQ (hFR.mono hsz)
    (fun g' hg'=>⟨fun h=>by have:=HFI.out.2.1.lt g' h;have:=(hFR.2 g' hg').1;omega,fun h=>by have:=(hFR.2 g' hg').1;have e:h2=g':=(by simpa [blk] using h);omega⟩)
   rw[<-aW HPK.out] at hst;have KN:Hid (CI uw1.heap.size g0 n c1 l.1 pre rest l.2 cssW (some ⟨h2,0,none⟩) m c2 wo uZ (k+1)):=⟨VO6,⟨_,_,hst⟩,ON6⟩;clear hZ V6 VO6 On6 ON6 kg1 hQ hFR hst;go_wp2
   go_roundw
   case rel=>exact⟨k+1,by omega,by go_num,KN⟩
   case measure=>simp[intOf];omega
  ·obtain rfl:k=m:=by omega
   have hcl:cssW.drop k=[]:=List.drop_eq_nil_of_le (by rw[HEL2.out.length,HM.out];exact Nat.le_refl _)
   rw[hcl,List.flatten_nil,List.take_of_length_le (by rw[HM.out];exact Nat.le_refl _)] at hFI
   obtain⟨F2,hr2,hf2⟩:=(FC.ox hFI (HM.out ▸ rfl)).ri;have hQ:(kE smE).P wr [.int .i64 l.1,.slice A2 k c2] l F2:=⟨A2,c2,by rw[HM.out],by rw[<-HM.out];exact hr2⟩
   have K1:Hid (CJ uw1.heap.size w net css0 (some ⟨g0,0,none⟩) n c1 wr (j+1)):=by
    have hF:=HFO.out;have hfO:∀ g',g'∈FO->wr.heap[g']?=wo.heap[g']?:=fun g' hg'=>HON.out.block g' (hF.2.1.lt g' hg') (fun e=>hF.2.2.2 g' (by first|exact e|exact e.symm) hg')
    have hv5:=HV2.out;rw[HPRE.out,HREST.out] at hv5;have hst:=FC.step (E:=kE smE) (css:=css) (A:=some ⟨g0,0,none⟩) (ys:=[.int .i64 l.1,.slice A2 k c2]) hv5 hF.2.1 hF.2.2.1 hF.2.2.2 hfO hQ (hf2.mono (by omega))
     (fun g' hg'=>⟨fun h=>by have:=hF.2.1.lt g' h;have:=(hf2.2 g' hg').1;omega,fun h=>by have:=(hf2.2 g' hg').1;have e:g0=g':=(by simpa [blk] using h);omega⟩)
    rw[<-aW HLJ.out] at hst
    exact⟨⟨_,_,hst⟩,HBW.out⟩
   have K2:=Qh (HB1.out.only HON.out hn1);have K3:=Qh (HB2.out.only HON.out hn2);clear hcl hFI hr2 hf2 hQ;go_wp2
   go_roundw
   case rel=>exact⟨j+1,by omega,by go_num,K1,K2,K3⟩
   case measure=>simp[intOf];omega
 ·obtain rfl:j=n:=by omega
  have hcl:css0.drop j=[]:=List.drop_eq_nil_of_le (by rw[HEL.out.length,HN.out];exact Nat.le_refl _)
  rw[hcl,List.flatten_nil,List.take_of_length_le (by rw[HN.out];exact Nat.le_refl _)] at hF
  have HOX:=Qh (FC.ox hF (HN.out ▸ rfl));have B1:=HB1.out;have B2:=HB2.out;have O:=HOB.out;have mw:=O.size;clear hcl hF HB1 HB2 HOB;obtain⟨z1,c1_0,f1_0,c1_1,f1_1⟩:=B1.f2;obtain⟨z2,c2_0,f2_0,c2_1,f2_1⟩:=B2.f2;go_wp2;have q1:w.heap.size<=w.heap.size+1:=by omega
  exact bodyPost_ret (v:= .agg #[.slice A1 j c1,.int .i64 s]) (by simp[results,Tryz.results36,go_sem,z1,c1_0,f1_0,c1_1,f1_1,z2,c2_0,f2_0,c2_1,f2_1,(by omega:¬w.heap.size=w.heap.size+1),(by omega:¬w.heap.size+1=w.heap.size)]) rfl ⟨A1,c1,css,FO,by rw[<-HN.out],by rw[<-HN.out];exact OX.mono ((HOX.out.lX (by dsimp only;omega) _).lX (by dsimp only;omega) _) (by omega),((O.setCell q1 _).setCell q1 _)⟩
end
def bs (l:List UInt8):ByteArray:=⟨l.toArray⟩
theorem bN (a b:List UInt8):bs a++bs b=bs (a++b):=by
 show ByteArray.append _ _=_
 simp[bs,ByteArray.append,ByteArray.copySlice]
theorem aK (a:List UInt8):(bs a).size=a.length:=by simp[bs,ByteArray.size]
theorem fe (s:ByteArray):bs s.data.toList=s:=by cases s;rfl
theorem xD (a:List UInt8):(bs a).data.toList=a:=rfl
theorem gU {a b:List UInt8} (h:bs a=bs b):a=b:=by
 have:=congrArg (fun s=>s.data.toList) h
 simpa [bs] using this
theorem Cc (xs:List Int):strOfNums xs=bs (xs.map fun n=>UInt8.ofNat n.toNat):=rfl
theorem yt (d:Int):((strOfNums [d]).size:Int)<=8388608:=by rw[strOfNums_size];simp
theorem vH (W:World) (d:Int):(convert 22 9 (.slice (some ⟨W.heap.size,0,none⟩) 1 1)).run Tryz.prog (W.alloc (.cells #[.int .u8 d] 5))= .ok (.string (strOfNums [d])) (W.alloc (.cells #[.int .u8 d] 5)):=by
 refine run_convert_bytes_arg (P:=Tryz.prog) (W.alloc (.cells #[.int .u8 d] 5)) 22 5 Tryz.underlying22 Tryz.underlying5 W.heap.size 0 1 1 [d] rfl ?_ 9 Tryz.underlying9;intro i hi;obtain rfl:i=0:=by omega
 exact(Blk.new W 5 #[.int .u8 d]).cell 0
theorem vQ {m:Int} (h0:0<=m) (h:m<=9):Lib.decDigits m.toNat=[UInt8.ofNat (48+m%10).toNat]:=by
 rw[Lib.decDigits,dif_pos (by omega)]
 congr 2
 omega
theorem Af {m:Int} (h:9<m):Lib.decDigits m.toNat=Lib.decDigits (m/10).toNat++[UInt8.ofNat (48+m%10).toNat]:=by
 rw[Lib.decDigits,dif_neg (by omega)]
 have e1:m.toNat/10=(m/10).toNat:=by omega
 have e2:48+m.toNat%10=(48+m%10).toNat:=by omega
 rw[e1,e2]
theorem e7 (u:Nat):1<=(Lib.decDigits u).length/\(Lib.decDigits u).length<=u+1:=by
 induction u using Nat.strongRecOn with
 | _ u ih =>
  rw[Lib.decDigits]
  split
  ·simp
  ·have:=ih (u/10) (by omega)
   simp only[List.length_append,List.length_cons,List.length_nil]
   omega
def dec (n:Int):List UInt8:=Lib.decDigits n.toNat
def Dd (n m:Int) (s:ByteArray):Prop:=∃ r,s=bs (UInt8.ofNat (48+m%10).toNat::r)/\Lib.decDigits n.toNat=Lib.decDigits m.toNat++r
theorem Dd.start (n:Int):Dd n n (strOfNums [48+n%10]):=⟨[],rfl,by simp⟩
theorem Dd.step {n m:Int} {s:ByteArray} (h:Dd n m s) (hm:9<m):Dd n (m/10) (strOfNums [48+m/10%10]++s):=by
 obtain⟨r,rfl,h2⟩:=h;refine⟨UInt8.ofNat (48+m%10).toNat::r,?_,?_⟩
 ·rw[Cc,bN];rfl
 ·rw[h2,Af hm,List.append_assoc];rfl
theorem Dd.fin {n m:Int} {s:ByteArray} (h:Dd n m s) (h0:0<=m) (hm:m<=9):s=bs (Lib.decDigits n.toNat):=by
 obtain⟨r,rfl,h2⟩:=h;rw[h2,vQ h0 hm]
 rfl
theorem Dd.size {n m:Int} {s:ByteArray} (h:Dd n m s) (hn:n<=1000000):(s.size:Int)<=8388608:=by
 obtain⟨r,rfl,h2⟩:=h;have h3:=e7 n.toNat;rw[h2,List.length_append] at h3;have h4:=e7 m.toNat;rw[aK,List.length_cons]
 omega
theorem Be {s:ByteArray} (h:(s.size:Int)<=8388608) (d:Int):(9223372036854775807<(strOfNums [d]).size+s.size)=False:=by
 rw[strOfNums_size];simp only[List.length_cons,List.length_nil,eq_iff_iff,iff_false]
 omega
theorem bT {a b:ByteArray} (h:a=b):Ending.returned (.string a)= .returned (.string b):=by rw[h]
theorem eO (n:Int) (h0:0<=n) (h1:n<=1000000) (w:World):Calls Tryz.prog 101 #[.int .i64 n] w fun e w'=>e= .returned (.string (bs (Lib.decDigits n.toNat)))/\Below w.heap.size w w':=by
 have kc:=vH;have ks:=yt
 go_enter Tryz.func101,Tryz.ntmps101
 go_wp2
 go_loopw [0,3] (fun q o wr=>∃ (m:Int) (s:ByteArray),q= .int .i64 m/\o= .string s/\0<=m/\m<=n/\Hid (Dd n m s)/\Hid (Below w.heap.size w wr)) (fun q _ _=>(intOf q).toNat)
 case atStart=>exact⟨n,_,rfl,rfl,h0,Int.le_refl _,Dd.start n,Qb.alloc Ql _⟩
 case round =>
  obtain⟨m,s,rfl,rfl,m0,m1,hd,hb⟩:=hrel;have hsz:=hd.out.size h1
  by_cases hm:9<m
  ·have hss:=Be hsz;clear hsz;go_wp2
   go_roundw
   case rel=>exact⟨m/10,_,rfl,rfl,by omega,by omega,hd.out.step hm,hb.out.alloc hb.out.size _⟩
   case measure=>simp[intOf];omega
  ·have HF:=Qh (hd.out.fin m0 (by omega))
   clear hd;go_wp2
   go_ret
   exact⟨bT HF.out,hb.out⟩
end Go.Proofs.YtjciicheoghcdaaGreatDoor
namespace Go.Proofs
set_option maxRecDepth 100000
set_option maxHeartbeats 16000000
open Go.Shelf
def Tryz.DN:Go.Shelf.Ren:=⟨fun|156=>60|165=>111|166=>112|169=>113|240=>154|241=>155|276=>201|277=>202|n=>n,fun|31=>48|9=>9|3=>3|4=>4|0=>0|20=>20|72=>146|76=>150|70=>144|37=>22|75=>149|127=>191|164=>227|5=>5|80=>152|n=>n,fun|n=>n⟩
theorem Tryz.ue:Go.Proofs.Lays.n156 Tryz.prog Tryz.DN:= {
 mixed:=by kernel_rfl
 f156:=Tryz.func60.trans (congrArg some (by kernel_rfl))
 f165:=Tryz.func111.trans (congrArg some (by kernel_rfl))
 f166:=Tryz.func112.trans (congrArg some (by kernel_rfl))
 f169:=Tryz.func113.trans (congrArg some (by kernel_rfl))
 f240:=Tryz.func154.trans (congrArg some (by kernel_rfl))
 f241:=Tryz.func155.trans (congrArg some (by kernel_rfl))
 f276:=Tryz.func201.trans (congrArg some (by kernel_rfl))
 f277:=Tryz.func202.trans (congrArg some (by kernel_rfl))
 t0:=Tryz.underlying0
 a0:=Tryz.isAgg0
 z0:=Tryz.sizeOf0
 v0:=Tryz.zeroValue0
 t3:=Tryz.underlying3
 a3:=Tryz.isAgg3
 z3:=Tryz.sizeOf3
 v3:=Tryz.zeroValue3
 t4:=Tryz.underlying4
 a4:=Tryz.isAgg4
 z4:=Tryz.sizeOf4
 v4:=Tryz.zeroValue4
 t9:=Tryz.underlying9
 a9:=Tryz.isAgg9
 z9:=Tryz.sizeOf9
 v9:=Tryz.zeroValue9
 t20:=Tryz.underlying20
 a20:=Tryz.isAgg20
 z20:=Tryz.sizeOf20
 v20:=Tryz.zeroValue20
 t31:=Tryz.underlying48
 a31:=Tryz.isAgg48
 z31:=Tryz.sizeOf48
 v31:=Tryz.zeroValue48
 t37:=Tryz.underlying22
 a37:=Tryz.isAgg22
 z37:=Tryz.sizeOf22
 v37:=Tryz.zeroValue22
 t70:=Tryz.underlying144
 a70:=Tryz.isAgg144
 z70:=Tryz.sizeOf144
 v70:=Tryz.zeroValue144
 t72:=Tryz.underlying146
 a72:=Tryz.isAgg146
 z72:=Tryz.sizeOf146
 v72:=Tryz.zeroValue146
 t75:=Tryz.underlying149
 a75:=Tryz.isAgg149
 z75:=Tryz.sizeOf149
 v75:=Tryz.zeroValue149
 t76:=Tryz.underlying150
 a76:=Tryz.isAgg150
 z76:=Tryz.sizeOf150
 v76:=Tryz.zeroValue150
 t127:=Tryz.underlying191
 a127:=Tryz.isAgg191
 z127:=Tryz.sizeOf191
 v127:=Tryz.zeroValue191
 t164:=Tryz.underlying227
 a164:=Tryz.isAgg227
 z164:=Tryz.sizeOf227
 v164:=Tryz.zeroValue227 }
theorem Tryz.fJ:Builder.Extra Tryz.prog Tryz.DN:= {
 sizeBuilder:=by kernel_rfl
 liesBuilder:=by kernel_rfl
 t5:=Tryz.underlying5
 a5:=Tryz.isAgg5
 z5:=Tryz.sizeOf5
 v5:=Tryz.zeroValue5
 infoByte:=by kernel_rfl
 cellsByte:=by kernel_rfl
 sizeByte:=by kernel_rfl
 neB5:=by decide }
open Go.RowKit in
theorem Tryz.strings_Join_none (a:Option Addr) (c:Nat) (sep:ByteArray) (w:World) :
  Calls Tryz.prog 60 #[.slice a 0 c,.string sep] w fun e w'=>e= .returned (.string ⟨#[]⟩)/\w'=w:=Any.strings_Join_none Tryz.ue Tryz.fJ a c sep w
open Go.RowKit in
theorem Tryz.strings_Join (bk o c:Nat) (xs:List ByteArray) (sep:ByteArray) (w:World) (hcells:∀ (j:Nat) x,xs[j]?=some x->w.cell? ⟨bk,o+j,none⟩=some (.string x)) (hbk:bk<w.heap.size) (hN:xs.length<=140737488355328) (hcap:xs.length<=c) (hlen:(Lib.join (xs.map (·.data.toList)) sep.data.toList).length<=140737488355328) :
  Calls Tryz.prog 60 #[.slice (some ⟨bk,o,none⟩) xs.length c,.string sep] w fun e w'=>e= .returned (.string ⟨(Lib.join (xs.map (·.data.toList)) sep.data.toList).toArray⟩)/\Below w.heap.size w w':=Any.strings_Join Tryz.ue Tryz.fJ bk o c xs sep w hcells hbk hN hcap hlen
def Tryz.rS:Go.Shelf.Ren:=⟨fun|162=>110|232=>150|227=>151|234=>152|236=>153|228=>198|271=>199|151=>200|120=>241|197=>220|152=>242|260=>257|137=>273|119=>274|224=>165|225=>164|217=>163|266=>206|n=>n,fun|9=>9|4=>4|3=>3|5=>5|117=>187|116=>186|0=>0|124=>190|21=>21|105=>224|46=>142|119=>288|139=>291|138=>290|n=>n,fun|3=>2|4=>3|n=>n⟩
theorem Tryz.xX:Go.Proofs.Lays.n162 Tryz.prog Tryz.rS:= {
 mixed:=by kernel_rfl
 f119:=Tryz.func274.trans (congrArg some (by kernel_rfl))
 f120:=Tryz.func241.trans (congrArg some (by kernel_rfl))
 f137:=Tryz.func273.trans (congrArg some (by kernel_rfl))
 f151:=Tryz.func200.trans (congrArg some (by kernel_rfl))
 f152:=Tryz.func242.trans (congrArg some (by kernel_rfl))
 f162:=Tryz.func110.trans (congrArg some (by kernel_rfl))
 f197:=Tryz.func220.trans (congrArg some (by kernel_rfl))
 f217:=Tryz.func163.trans (congrArg some (by kernel_rfl))
 f224:=Tryz.func165.trans (congrArg some (by kernel_rfl))
 f225:=Tryz.func164.trans (congrArg some (by kernel_rfl))
 f227:=Tryz.func151.trans (congrArg some (by kernel_rfl))
 f228:=Tryz.func198.trans (congrArg some (by kernel_rfl))
 f232:=Tryz.func150.trans (congrArg some (by kernel_rfl))
 f234:=Tryz.func152.trans (congrArg some (by kernel_rfl))
 f236:=Tryz.func153.trans (congrArg some (by kernel_rfl))
 f260:=Tryz.func257.trans (congrArg some (by kernel_rfl))
 f266:=Tryz.func206.trans (congrArg some (by kernel_rfl))
 f271:=Tryz.func199.trans (congrArg some (by kernel_rfl))
 t0:=Tryz.underlying0
 a0:=Tryz.isAgg0
 z0:=Tryz.sizeOf0
 v0:=Tryz.zeroValue0
 t3:=Tryz.underlying3
 a3:=Tryz.isAgg3
 z3:=Tryz.sizeOf3
 v3:=Tryz.zeroValue3
 t4:=Tryz.underlying4
 a4:=Tryz.isAgg4
 z4:=Tryz.sizeOf4
 v4:=Tryz.zeroValue4
 t5:=Tryz.underlying5
 a5:=Tryz.isAgg5
 z5:=Tryz.sizeOf5
 v5:=Tryz.zeroValue5
 t9:=Tryz.underlying9
 a9:=Tryz.isAgg9
 z9:=Tryz.sizeOf9
 v9:=Tryz.zeroValue9
 t21:=Tryz.underlying21
 a21:=Tryz.isAgg21
 z21:=Tryz.sizeOf21
 v21:=Tryz.zeroValue21
 t46:=Tryz.underlying142
 a46:=Tryz.isAgg142
 z46:=Tryz.sizeOf142
 v46:=Tryz.zeroValue142
 t105:=Tryz.underlying224
 a105:=Tryz.isAgg224
 z105:=Tryz.sizeOf224
 v105:=Tryz.zeroValue224
 t116:=Tryz.underlying186
 a116:=Tryz.isAgg186
 z116:=Tryz.sizeOf186
 t117:=Tryz.underlying187
 a117:=Tryz.isAgg187
 z117:=Tryz.sizeOf187
 v117:=Tryz.zeroValue187
 t119:=Tryz.underlying288
 a119:=Tryz.isAgg288
 z119:=Tryz.sizeOf288
 t124:=Tryz.underlying190
 a124:=Tryz.isAgg190
 z124:=Tryz.sizeOf190
 v124:=Tryz.zeroValue190
 t138:=Tryz.underlying290
 a138:=Tryz.isAgg290
 z138:=Tryz.sizeOf290
 v138:=Tryz.zeroValue290
 t139:=Tryz.underlying291
 a139:=Tryz.isAgg291
 z139:=Tryz.sizeOf291
 v139:=Tryz.zeroValue291
 g3:=by kernel_rfl
 g4:=by kernel_rfl }
open Go.RowKit in
theorem Tryz.strings_TrimRight_one (s:ByteArray) (c:UInt8) (hc:c.toNat<128) (w:World) (hs:s.size<=9223372036854775807) :
  Calls Tryz.prog 110 #[.string s,.string ⟨#[c]⟩] w fun e w'=>e= .returned (.string ⟨(Lib.trimRightB s.data.toList c).toArray⟩)/\w'=w:=Any.strings_TrimRight_one Tryz.xX s c hc w hs
def Tryz.rP:Go.Shelf.Ren:=⟨fun|103=>178|210=>222|206=>258|n=>n,fun|9=>9|4=>4|24=>205|3=>3|n=>n,fun|n=>n⟩
theorem Tryz.xU:Go.Proofs.Lays.n103 Tryz.prog Tryz.rP:= {
 mixed:=by kernel_rfl
 f103:=Tryz.func178.trans (congrArg some (by kernel_rfl))
 f206:=Tryz.func258.trans (congrArg some (by kernel_rfl))
 f210:=Tryz.func222.trans (congrArg some (by kernel_rfl))
 t3:=Tryz.underlying3
 a3:=Tryz.isAgg3
 z3:=Tryz.sizeOf3
 v3:=Tryz.zeroValue3
 t4:=Tryz.underlying4
 a4:=Tryz.isAgg4
 z4:=Tryz.sizeOf4
 v4:=Tryz.zeroValue4
 t9:=Tryz.underlying9
 a9:=Tryz.isAgg9
 z9:=Tryz.sizeOf9
 v9:=Tryz.zeroValue9
 t24:=Tryz.underlying205
 a24:=Tryz.isAgg205
 z24:=Tryz.sizeOf205
 v24:=Tryz.zeroValue205 }
open Go.RowKit in
theorem Tryz.strings_CutPrefix (s p:ByteArray) (w:World) :
  Calls Tryz.prog 178 #[.string s,.string p] w fun e w'=>e= .returned (.tuple #[.string ⟨(Lib.trimPrefix s.data.toList p.data.toList).toArray⟩,.bool (Lib.hasPrefix s.data.toList p.data.toList)])/\w'=w:=Any.strings_CutPrefix Tryz.xU s p w
def Tryz.ql:Go.Shelf.Ren:=⟨fun|171=>109|243=>149|246=>197|283=>237|284=>238|285=>239|286=>240|129=>269|317=>268|318=>270|319=>271|320=>272|337=>291|338=>292|n=>n,fun|3=>3|9=>9|2=>2|4=>4|171=>260|0=>0|53=>261|37=>22|5=>5|173=>264|212=>281|51=>235|20=>20|213=>282|46=>142|232=>297|233=>298|n=>n,fun|17=>1|18=>4|19=>5|n=>n⟩
theorem Tryz.wz:Go.Proofs.LaysM.n171 Tryz.prog Tryz.ql:= {
 mixed:=by kernel_rfl
 f129:=Tryz.func269.trans (congrArg some (by kernel_rfl))
 f171:=Tryz.func109.trans (congrArg some (by kernel_rfl))
 f243:=Tryz.func149.trans (congrArg some (by kernel_rfl))
 f246:=Tryz.func197.trans (congrArg some (by kernel_rfl))
 f283:=Tryz.func237.trans (congrArg some (by kernel_rfl))
 f284:=Tryz.func238.trans (congrArg some (by kernel_rfl))
 f285:=Tryz.func239.trans (congrArg some (by kernel_rfl))
 f286:=Tryz.func240.trans (congrArg some (by kernel_rfl))
 f317:=Tryz.func268.trans (congrArg some (by kernel_rfl))
 f318:=Tryz.func270.trans (congrArg some (by kernel_rfl))
 f319:=Tryz.func271.trans (congrArg some (by kernel_rfl))
 f320:=Tryz.func272.trans (congrArg some (by kernel_rfl))
 f337:=Tryz.func291.trans (congrArg some (by kernel_rfl))
 f338:=Tryz.func292.trans (congrArg some (by kernel_rfl))
 t0:=Tryz.underlying0
 a0:=Tryz.isAgg0
 z0:=Tryz.sizeOf0
 v0:=Tryz.zeroValue0
 t2:=Tryz.underlying2
 a2:=Tryz.isAgg2
 z2:=Tryz.sizeOf2
 v2:=Tryz.zeroValue2
 t3:=Tryz.underlying3
 a3:=Tryz.isAgg3
 z3:=Tryz.sizeOf3
 v3:=Tryz.zeroValue3
 t4:=Tryz.underlying4
 a4:=Tryz.isAgg4
 z4:=Tryz.sizeOf4
 v4:=Tryz.zeroValue4
 t5:=Tryz.underlying5
 a5:=Tryz.isAgg5
 z5:=Tryz.sizeOf5
 v5:=Tryz.zeroValue5
 t9:=Tryz.underlying9
 a9:=Tryz.isAgg9
 z9:=Tryz.sizeOf9
 v9:=Tryz.zeroValue9
 t20:=Tryz.underlying20
 a20:=Tryz.isAgg20
 z20:=Tryz.sizeOf20
 v20:=Tryz.zeroValue20
 t37:=Tryz.underlying22
 a37:=Tryz.isAgg22
 z37:=Tryz.sizeOf22
 v37:=Tryz.zeroValue22
 t46:=Tryz.underlying142
 a46:=Tryz.isAgg142
 z46:=Tryz.sizeOf142
 v46:=Tryz.zeroValue142
 t51:=Tryz.underlying235
 a51:=Tryz.isAgg235
 z51:=Tryz.sizeOf235
 v51:=Tryz.zeroValue235
 t53:=Tryz.underlying261
 a53:=Tryz.isAgg261
 z53:=Tryz.sizeOf261
 v53:=Tryz.zeroValue261
 t171:=Tryz.underlying260
 a171:=Tryz.isAgg260
 z171:=Tryz.sizeOf260
 v171:=Tryz.zeroValue260
 t173:=Tryz.underlying264
 a173:=Tryz.isAgg264
 z173:=Tryz.sizeOf264
 v173:=Tryz.zeroValue264
 t212:=Tryz.underlying281
 a212:=Tryz.isAgg281
 z212:=Tryz.sizeOf281
 v212:=Tryz.zeroValue281
 t213:=Tryz.underlying282
 a213:=Tryz.isAgg282
 z213:=Tryz.sizeOf282
 t232:=Tryz.underlying297
 a232:=Tryz.isAgg297
 z232:=Tryz.sizeOf297
 v232:=Tryz.zeroValue297
 t233:=Tryz.underlying298
 a233:=Tryz.isAgg298
 z233:=Tryz.sizeOf298
 v233:=Tryz.zeroValue298
 g17:=by kernel_rfl
 g18:=by kernel_rfl
 g19:=by kernel_rfl
 i0:=by kernel_rfl
 i2:=by kernel_rfl
 i3:=by kernel_rfl
 i4:=by kernel_rfl
 i5:=by kernel_rfl
 i9:=by kernel_rfl
 i20:=by kernel_rfl
 i37:=by kernel_rfl
 i46:=by kernel_rfl
 i51:=by kernel_rfl
 i53:=by kernel_rfl
 i171:=by kernel_rfl
 i173:=by kernel_rfl
 i212:=by kernel_rfl
 i232:=by kernel_rfl
 i233:=by kernel_rfl
 m17:=by kernel_rfl
 m18:=by kernel_rfl
 m19:=by kernel_rfl }
open Go.RowKit Go.Sort Go.Lib in
theorem Tryz.strconv_Itoa (n:Int) (h0: -9223372036854775808<=n) (h1:n<=9223372036854775807) (w:World) (htab:Lib.TabIs Tryz.prog w "internal/strconv.uint64pow10" .u64 Lib.pow10Tab) :
  Calls Tryz.prog 109 #[.int .i64 n] w fun e w'=>e= .returned (.string ⟨(Lib.itoa n).toArray⟩)/\∃ k os,w'=grow (w.drewN k) os:=Any.strconv_Itoa Tryz.wz n h0 h1 w htab
def Tryz.rQ:Go.Shelf.Ren:=⟨fun|145=>34|220=>76|219=>122|217=>163|225=>164|224=>165|267=>166|266=>206|314=>207|n=>n,fun|9=>9|4=>4|59=>60|3=>3|5=>5|46=>142|146=>236|51=>235|n=>n,fun|1=>0|n=>n⟩
theorem Tryz.xV:Go.Proofs.Lays.n145 Tryz.prog Tryz.rQ:= {
 mixed:=by kernel_rfl
 f145:=Tryz.func34.trans (congrArg some (by kernel_rfl))
 f217:=Tryz.func163.trans (congrArg some (by kernel_rfl))
 f219:=Tryz.func122.trans (congrArg some (by kernel_rfl))
 f220:=Tryz.func76.trans (congrArg some (by kernel_rfl))
 f224:=Tryz.func165.trans (congrArg some (by kernel_rfl))
 f225:=Tryz.func164.trans (congrArg some (by kernel_rfl))
 f266:=Tryz.func206.trans (congrArg some (by kernel_rfl))
 f267:=Tryz.func166.trans (congrArg some (by kernel_rfl))
 f314:=Tryz.func207.trans (congrArg some (by kernel_rfl))
 t3:=Tryz.underlying3
 a3:=Tryz.isAgg3
 z3:=Tryz.sizeOf3
 v3:=Tryz.zeroValue3
 t4:=Tryz.underlying4
 a4:=Tryz.isAgg4
 z4:=Tryz.sizeOf4
 v4:=Tryz.zeroValue4
 t5:=Tryz.underlying5
 a5:=Tryz.isAgg5
 z5:=Tryz.sizeOf5
 v5:=Tryz.zeroValue5
 t9:=Tryz.underlying9
 a9:=Tryz.isAgg9
 z9:=Tryz.sizeOf9
 v9:=Tryz.zeroValue9
 t46:=Tryz.underlying142
 a46:=Tryz.isAgg142
 z46:=Tryz.sizeOf142
 v46:=Tryz.zeroValue142
 t51:=Tryz.underlying235
 a51:=Tryz.isAgg235
 z51:=Tryz.sizeOf235
 v51:=Tryz.zeroValue235
 t59:=Tryz.underlying60
 a59:=Tryz.isAgg60
 z59:=Tryz.sizeOf60
 v59:=Tryz.zeroValue60
 t146:=Tryz.underlying236
 a146:=Tryz.isAgg236
 z146:=Tryz.sizeOf236
 v146:=Tryz.zeroValue236
 g1:=by kernel_rfl }
open Go.RowKit Go.Lib in
theorem Tryz.strings_Cut (s sep:ByteArray) (m:Int) (w:World) (hs:s.size<4294967281) (hm:w.cell? ⟨0,0,none⟩=some (.int .i64 m)) :
  Calls Tryz.prog 34 #[.string s,.string sep] w fun e w'=>e= .returned (.tuple #[.string ⟨(Lib.cut s.data.toList sep.data.toList).1.toArray⟩,.string ⟨(Lib.cut s.data.toList sep.data.toList).2.1.toArray⟩,.bool (Lib.cut s.data.toList sep.data.toList).2.2])/\∃ n,w'=w.drewN n:=Any.strings_Cut Tryz.xV s sep m w hs hm
def Tryz.rR:Go.Shelf.Ren:=⟨fun|146=>83|221=>129|268=>175|138=>176|143=>177|195=>219|197=>220|218=>221|219=>122|260=>257|217=>163|225=>164|224=>165|267=>166|266=>206|314=>207|n=>n,fun|9=>9|31=>48|3=>3|4=>4|0=>0|105=>224|21=>21|5=>5|46=>142|119=>288|139=>291|138=>290|146=>236|51=>235|n=>n,fun|1=>0|3=>2|4=>3|n=>n⟩
theorem Tryz.xW:Go.Proofs.Lays.n146 Tryz.prog Tryz.rR:= {
 mixed:=by kernel_rfl
 f138:=Tryz.func176.trans (congrArg some (by kernel_rfl))
 f143:=Tryz.func177.trans (congrArg some (by kernel_rfl))
 f146:=Tryz.func83.trans (congrArg some (by kernel_rfl))
 f195:=Tryz.func219.trans (congrArg some (by kernel_rfl))
 f197:=Tryz.func220.trans (congrArg some (by kernel_rfl))
 f217:=Tryz.func163.trans (congrArg some (by kernel_rfl))
 f218:=Tryz.func221.trans (congrArg some (by kernel_rfl))
 f219:=Tryz.func122.trans (congrArg some (by kernel_rfl))
 f221:=Tryz.func129.trans (congrArg some (by kernel_rfl))
 f224:=Tryz.func165.trans (congrArg some (by kernel_rfl))
 f225:=Tryz.func164.trans (congrArg some (by kernel_rfl))
 f260:=Tryz.func257.trans (congrArg some (by kernel_rfl))
 f266:=Tryz.func206.trans (congrArg some (by kernel_rfl))
 f267:=Tryz.func166.trans (congrArg some (by kernel_rfl))
 f268:=Tryz.func175.trans (congrArg some (by kernel_rfl))
 f314:=Tryz.func207.trans (congrArg some (by kernel_rfl))
 t0:=Tryz.underlying0
 a0:=Tryz.isAgg0
 z0:=Tryz.sizeOf0
 v0:=Tryz.zeroValue0
 t3:=Tryz.underlying3
 a3:=Tryz.isAgg3
 z3:=Tryz.sizeOf3
 v3:=Tryz.zeroValue3
 t4:=Tryz.underlying4
 a4:=Tryz.isAgg4
 z4:=Tryz.sizeOf4
 v4:=Tryz.zeroValue4
 t5:=Tryz.underlying5
 a5:=Tryz.isAgg5
 z5:=Tryz.sizeOf5
 v5:=Tryz.zeroValue5
 t9:=Tryz.underlying9
 a9:=Tryz.isAgg9
 z9:=Tryz.sizeOf9
 v9:=Tryz.zeroValue9
 t21:=Tryz.underlying21
 a21:=Tryz.isAgg21
 z21:=Tryz.sizeOf21
 v21:=Tryz.zeroValue21
 t31:=Tryz.underlying48
 a31:=Tryz.isAgg48
 z31:=Tryz.sizeOf48
 v31:=Tryz.zeroValue48
 t46:=Tryz.underlying142
 a46:=Tryz.isAgg142
 z46:=Tryz.sizeOf142
 v46:=Tryz.zeroValue142
 t51:=Tryz.underlying235
 a51:=Tryz.isAgg235
 z51:=Tryz.sizeOf235
 v51:=Tryz.zeroValue235
 t105:=Tryz.underlying224
 a105:=Tryz.isAgg224
 z105:=Tryz.sizeOf224
 v105:=Tryz.zeroValue224
 t119:=Tryz.underlying288
 a119:=Tryz.isAgg288
 z119:=Tryz.sizeOf288
 t138:=Tryz.underlying290
 a138:=Tryz.isAgg290
 z138:=Tryz.sizeOf290
 v138:=Tryz.zeroValue290
 t139:=Tryz.underlying291
 a139:=Tryz.isAgg291
 z139:=Tryz.sizeOf291
 v139:=Tryz.zeroValue291
 t146:=Tryz.underlying236
 a146:=Tryz.isAgg236
 z146:=Tryz.sizeOf236
 v146:=Tryz.zeroValue236
 g1:=by kernel_rfl
 g3:=by kernel_rfl
 g4:=by kernel_rfl }
open Go.RowKit Go.Lib in
theorem Tryz.strings_Split (s sep:ByteArray) (m:Int) (w:World) (hs:s.size<4294967281) (hm:w.cell? ⟨0,0,none⟩=some (.int .i64 m)) (h1:1<=sep.size) :
  Calls Tryz.prog 83 #[.string s,.string sep] w fun e w' =>
   e= .returned (.slice (some ⟨w.heap.size,0,none⟩) (Lib.countB s sep+1) (Lib.countB s sep+1))/\w'=w.alloc (.cells ((Lib.splitB sep 0 (Lib.countB s sep) s).map Value.string).toArray 9):=Any.strings_Split Tryz.xW (by kernel_rfl) s sep m w hs hm h1
end Go.Proofs
namespace Go.Proofs.YtjciicheoghcdaaGreatDoor
open Go.RowKit
set_option linter.all false
set_option maxRecDepth 20000
set_option maxHeartbeats 16000000
def okN (n:Int):Bool:=decide (0<=n/\n<=1000000)
def jn (l:List Int):List UInt8:=Lib.join (l.map dec) [32]
def nt (l:List Int):List UInt8:=if l.all okN=true then jn l else []
theorem xR {l:List Int} (h:l≠[]) (x:Int):jn (l++[x])=jn l++[32]++dec x:=by
 cases l with
 | nil=>exact absurd rfl h
 | cons a l=>simp[jn,Lib.join_cons,Lib.joinTail]
theorem At (x:Int):jn [x]=dec x:=by simp[jn,Lib.join_one]
theorem wI {l:List Int} {x:Int} (h:x∈l) (hx:okN x=false):nt l=[]:=if_neg (fun e=>by rw[List.all_eq_true] at e;have:=e x h;rw[hx] at this;cases this)
theorem zj {l:List Int} (h:l.all okN=true):nt l=jn l:=if_pos h
theorem wL {x:Int} (h:okN x=true):0<=x/\x<=1000000:=of_decide_eq_true h
theorem jZ {x:Int} (h:okN x=true):(dec x).length<=1000001:=by
 have:=wL h;have:=(e7 x.toNat).2;unfold dec
 omega
theorem tE (l:List Int) (k:Nat) (h:k<l.length):l.take (k+1)=l.take k++[l.getD k 0]:=by
 rw[List.take_succ_eq_append_getElem h,List.getD_eq_getElem?_getD,List.getElem?_eq_getElem h];rfl
def Nk (l:List Int) (k:Nat) (s:ByteArray):Prop:=(l.take k).all okN=true/\s=bs (jn (l.take k))/\s.size<=k*1000002
theorem Nk.start (l:List Int):Nk l 0 ⟨#[]⟩:=⟨rfl,rfl,Nat.le_refl _⟩
theorem Nk.one {l:List Int} {s:ByteArray} (h:Nk l 0 s) (hk:0<l.length) (hx:okN (l.getD 0 0)=true):Nk l 1 (s++bs (dec (l.getD 0 0))):=by
 obtain⟨h1,rfl,h3⟩:=h;have e:l.take 1=[l.getD 0 0]:=by simpa using tE l 0 hk
 have e2:jn (l.take 0)=[]:=rfl;refine⟨by rw[e,List.all_cons,hx];rfl,by rw[e,At,e2,bN];rfl,?_⟩
 rw[e2,bN,aK,List.nil_append];have:=jZ hx
 omega
theorem Nk.next {l:List Int} {k:Nat} {s:ByteArray} (h:Nk l k s) (h0:0<k) (hk:k<l.length) (hx:okN (l.getD k 0)=true):Nk l (k+1) (s++⟨#[32]⟩++bs (dec (l.getD k 0))):=by
 obtain⟨h1,rfl,h3⟩:=h;have e:l.take (k+1)=l.take k++[l.getD k 0]:=tE l k hk;have e2:(⟨#[32]⟩:ByteArray)=bs [32]:=rfl;have hne:l.take k≠[]:=by
  intro h;have:=congrArg List.length h;rw[List.length_take,List.length_nil] at this
  omega
 have e3:bs (jn (l.take k))++⟨#[32]⟩++bs (dec (l.getD k 0))=bs (jn (l.take (k+1))):=by rw[e,xR hne,e2,bN,bN]
 refine⟨by rw[e,List.all_append,h1,List.all_cons,hx];rfl,e3,?_⟩
 rw[e2,bN,bN,aK];rw[aK] at h3;have:=jZ hx;simp only[List.length_append,List.length_cons,List.length_nil]
 omega
theorem Nk.fin {l:List Int} {s:ByteArray} (h:Nk l l.length s):s=bs (nt l):=by
 obtain⟨h1,h2,_⟩:=h;rw[List.take_length] at h1 h2;rw[zj h1]
 exact h2
theorem cK {a b:Nat} (h:a+b<=9223372036854775807):(9223372036854775807<a+b)=False:=by simp only[eq_iff_iff,iff_false];omega
theorem yR (a b c d:Int) (k:Nat) (hk:k<4):(#[Value.int .i64 a,.int .i64 b,.int .i64 c,.int .i64 d]:Array Value)[k]?=some (.int .i64 ([a,b,c,d].getD k 0)):=by
 match k,hk with
 | 0,_=>rfl
 | 1,_=>rfl
 | 2,_=>rfl
 | 3,_=>rfl
theorem BQ (a b c d:Int) (k:Nat) (hk:k<4):[a,b,c,d].getD k 0∈[a,b,c,d]:=by
 match k,hk with
 | 0,_=>simp
 | 1,_=>simp
 | 2,_=>simp
 | 3,_=>simp
theorem lM (x:Int) {b:Bool} (h:okN x=b) (w:World):Calls Tryz.prog 53 #[.int .i64 x,.int .i64 0,.int .i64 1000000] w fun e w'=>e= .returned (.bool b)/\w=w':=by
 subst h
 exact lL x 0 1000000 w
theorem sA (a b c d:Int) (w:World):Calls Tryz.prog 50 #[.agg #[.int .i64 a,.int .i64 b,.int .i64 c,.int .i64 d]] w fun e w'=>e= .returned (.string (bs (nt [a,b,c,d])))/\Below w.heap.size w w':=by
 obtain⟨u1,hu1⟩:∃ u,u=(w.alloc (.cells #[.int .i64 a,.int .i64 b,.int .i64 c,.int .i64 d] 92)).alloc (.cells #[.int .i64 a,.int .i64 b,.int .i64 c,.int .i64 d] 3):=⟨_,rfl⟩;have HB:Hid (Blk u1 (w.heap.size+1) 3 #[.int .i64 a,.int .i64 b,.int .i64 c,.int .i64 d]):=by
  rw[hu1];have h:=Blk.new (w.alloc (.cells #[.int .i64 a,.int .i64 b,.int .i64 c,.int .i64 d] 92)) 3 #[.int .i64 a,.int .i64 b,.int .i64 c,.int .i64 d]
  show Blk _ _ _ _
  simpa using h
 have HO:Hid (Below w.heap.size w u1):=by rw[hu1];exact(Qb.alloc Ql _).alloc (by simp) _
 go_enter Tryz.func50,Tryz.ntmps50
 go_wp2_with fail
 rw[<-hu1];clear hu1
 go_loopw [4,5] (fun o q wr=>∃ (k:Nat) (s:ByteArray),k<=4/\q= .int .i64 k/\o= .string s/\Hid (Nk [a,b,c,d] k s)/\Hid (Blk wr (w.heap.size+1) 3 #[.int .i64 a,.int .i64 b,.int .i64 c,.int .i64 d])/\Hid (Below w.heap.size w wr)) (fun _ q _=>4-(intOf q).toNat)
 case atStart=>exact⟨0,_,by omega,rfl,rfl,Nk.start _,HB,HO⟩
 case round =>
  obtain⟨k,s,hk,rfl,rfl,hn,hb,ho⟩:=hrel
  by_cases hlt:k<4
  ·obtain⟨x,ex⟩:∃ x,x=[a,b,c,d].getD k 0:=⟨_,rfl⟩;have cx:wr.cell? ⟨w.heap.size+1,k,none⟩=some (.int .i64 x):=by rw[hb.out.cell,ex];exact yR a b c d k hlt
   have EX:=Qh ex;have i0:(0:Int)<=(k:Int):=by omega
   have i1:(k:Int)<4:=by omega
   cases hx:okN x
   ·have HF:Hid (nt [a,b,c,d]=[]):=wI (BQ a b c d k hlt) (by rw[<-ex];exact hx)
    clear ex
    go_wp2_with fail
    refine Qc (lM x hx wr) ?_;go_wp2
    go_ret
    exact⟨bT (by rw[HF.out];rfl),ho.out⟩
   ·obtain⟨x0,x1⟩:=wL hx;have hsz:s.size<=4*1000002:=Nat.le_trans hn.out.2.2 (Nat.mul_le_mul_right _ hk);have hdl:=jZ hx;have HX:=Qh hx;clear ex
    by_cases hk0:k=0
    ·subst hk0
     go_wp2_with fail
     refine Qc (lM x HX.out wr) ?_;clear hx
     go_wp2_with fail
     refine(eO x x0 x1 wr).mono ?_;rintro e w1 ⟨rfl,hb1⟩;obtain⟨r,hr⟩:∃ r,r=bs (dec x):=⟨_,rfl⟩;have hr2:r=bs (Lib.decDigits x.toNat):=hr;have hrs:r.size=(dec x).length:=by rw[hr,aK]
     rw[<-hr2];have HR:=Qh hr;clear hr hr2;have ho1:=cK (a:=s.size) (b:=r.size) (by omega)
     clear hrs hdl hsz;go_wp2
     go_roundw
     case rel=>exact⟨1,_,by omega,by go_num,rfl,by rw[HR.out,EX.out];exact hn.out.one (Nat.succ_pos _) (by rw[<-EX.out];exact HX.out),hb.out.aa hb1,bp hb1 ho.out.size ho.out⟩
     case measure=>simp[intOf]
    ·have hk1:(0:Int)<(k:Int):=by omega
     go_wp2_with fail
     refine Qc (lM x HX.out wr) ?_;clear hx;have ho0:=cK (a:=s.size) (b:=1) (by omega)
     have e32:ByteArray.size ⟨#[32]⟩=1:=rfl;obtain⟨t,ht⟩:∃ t,s++(⟨#[32]⟩:ByteArray)=t:=⟨_,rfl⟩;have hts:t.size=s.size+1:=by rw[<-ht];exact ByteArray.size_append
     go_wp2_with fail
     refine(eO x x0 x1 wr).mono ?_;rintro e w1 ⟨rfl,hb1⟩;obtain⟨r,hr⟩:∃ r,r=bs (dec x):=⟨_,rfl⟩;have hr2:r=bs (Lib.decDigits x.toNat):=hr;have hrs:r.size=(dec x).length:=by rw[hr,aK]
     rw[<-hr2];have HR:=Qh hr;have HT:=Qh ht;clear hr hr2;have ho1:=cK (a:=t.size) (b:=r.size) (by omega)
     clear hrs hdl hsz ht hts ho0 e32;go_wp2
     go_roundw
     case rel=>exact⟨k+1,_,by omega,by go_num,rfl,by rw[HR.out,<-HT.out,EX.out];exact hn.out.next (by omega) hlt (by rw[<-EX.out];exact HX.out),hb.out.aa hb1,bp hb1 ho.out.size ho.out⟩
     case measure=>simp[intOf];omega
  ·obtain rfl:k=4:=by omega
   have HF:=Qh hn.out.fin;clear hn;go_wp2
   go_ret
   exact⟨bT HF.out,ho.out⟩
def ER (k:IntKind) (w:World) (a:Option Addr) (len cap:Nat) (zs:List Int):Prop :=
 (a=none/\len=0/\cap=0/\zs=[]) \/
 ∃ x,a=some x/\len<=cap/\cap<=maxLen/\zs.length=cap/\(∀ i,i<zs.length->w.cell? (x.add i)=some (.int k (zs.getD i 0)))/\∀ n∈zs,(Lit.int k n).wf=true
theorem wf_u8 {n:Int} (h:(Lit.int .u8 n).wf=true):0<=n/\n<=255:=by
 simp[Lit.wf,IntKind.min,IntKind.max,IntKind.signed,IntKind.bits] at h
 omega
theorem El {w:World} {a:Option Addr} {len cap:Nat} {zs:List Int} (h:ER .u8 w a len cap zs):len<=cap/\cap<=maxLen/\Bytes w w.heap.size a len/\(a=none->cap=0):=by
 rcases h with⟨rfl,rfl,rfl,rfl⟩|⟨x,rfl,hl,hm,hz,hc,hw⟩
 ·exact⟨Nat.le_refl _,by unfold maxLen;omega,fun h=>absurd h (by omega),fun _=>rfl⟩
 ·refine⟨hl,hm,fun h0=>?_,fun h=>by cases h⟩
  obtain⟨b,off,spot⟩:=x;have h1:=hc 0 (by omega)
  have hs:spot=none:=by simpa [Addr.add] using World.cell?_spot h1
  subst hs;have hb:=World.block_lt_of_cell? w _ h1;refine⟨b,off,rfl,by simpa [Addr.add] using hb,fun i hi=>?_⟩
  have h2:=hc i (by omega)
  have hm:zs.getD i 0∈zs:=by
   rw[List.getD_eq_getElem?_getD,List.getElem?_eq_getElem (by omega)]
   exact List.getElem_mem _
  have hw:=wf_u8 (hw _ hm);refine⟨zs.getD i 0,hw.1,hw.2,?_⟩;rw[<-h2];unfold Addr.add
  by_cases hi0:i=0
  ·subst hi0;simp
  ·simp[hi0]
end Go.Proofs.YtjciicheoghcdaaGreatDoor
