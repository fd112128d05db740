/- Part of the proof of FnServiceAnswer. -/
import Derived.Test.YtjciicheoghcdaaGreatDoorUB
import Derived.Test.YtjciicheoghcdaaGreatDoorUt
import Derived.Test.YtjciicheoghcdaaGreatDoorUu
import Derived.Test.YtjciicheoghcdaaGreatDoorUv
namespace Go.Proofs.YtjciicheoghcdaaGreatDoor
open Go.RowKit Go.Proofs.Tryz
set_option linter.all false
set_option maxRecDepth 20000
set_option maxHeartbeats 16000000
section
attribute [local go_sem] af ah ae
def OwS (net:List SL) (s:Int) (w:World) (e:Ending) (w':World):Prop:=∃ A c F,e= .returned (.agg #[.slice A net.length c,.int .i64 s])/\RI (kE smE) w' A net.length c net F/\Fr w' w.heap.size F/\Below w.heap.size w w'
theorem iT {net:List SL} {s:Int} (hs:svS (net,s)) {A:Option Addr} {cap:Nat} {F:List Nat} (w:World) (hx:RI (kE smE) w A net.length cap net F):Calls prog 38 #[.agg #[.slice A net.length cap,.int .i64 s]] w (OwS net s w):=by
 have HX:=Qh hx;have HL:=Qh hs.1;have HS:=Qh hs.2;clear hx hs;refine zE ?_;intro u1 H;refine zI (bW A net.length cap net F u1 (HX.out.below H.O) HL.out HS.out) ?_;clear H;intro w2 AO cO FO u2 H;refine zS_ ?_;clear H;intro u3 H
 exact⟨AO,cO,FO,rfl,(H.f 0).1,(H.f 0).2,H.O⟩
theorem AdR.all {base:Nat} {A:Option Addr} {c:Nat} {css:List (List Value)} {F:List Nat} {net:List SL} {s:Int} {res:Option Res} {w:World} {e:Ending} {w':World} (h:AdR base A c css F net s res w e w'):∃ A' c' css' F',e= .returned (.tuple #[.agg #[.slice A' (res.getD ((net,s),tNo)).1.1.length c',.int .i64 (res.getD ((net,s),tNo)).1.2],.string (bs (res.getD ((net,s),tNo)).2)])/\OX (kE smE) w' base 99 A' (res.getD ((net,s),tNo)).1.1.length c' css' (res.getD ((net,s),tNo)).1.1 F'/\UpL (fun i=>blk A=some i\/i∈F) w w':=by
 obtain⟨h1,h2⟩:=h
 cases res with
 | none=>exact⟨A,c,css,F,h1.1,h1.2,h2⟩
 | some r =>
  obtain⟨A',c',css',F',e,h⟩:=h1
  exact⟨A',c',css',F',e,h,h2⟩
theorem bq (l m:List UInt8):((bs l).toList == m)=(l == m):=by rw[ByteArray.toList_eq];simp[bs]
def Wds (nm:List UInt8) (a b c d:Bool):Prop:=((bs nm).toList == [100,101,110,115,101])=a/\((bs nm).toList == [109,105,120])=b/\((bs nm).toList == [114,117,110])=c/\((bs nm).toList == [110,101,101,100,115])=d
theorem vr {nm:List UInt8} (h:nm=[100,101,110,115,101]):Wds nm true false false false:=by subst h;exact⟨(bq _ _).trans (by decide),(bq _ _).trans (by decide),(bq _ _).trans (by decide),(bq _ _).trans (by decide)⟩
theorem yD {nm:List UInt8} (h:nm=[109,105,120]):Wds nm false true false false:=by subst h;exact⟨(bq _ _).trans (by decide),(bq _ _).trans (by decide),(bq _ _).trans (by decide),(bq _ _).trans (by decide)⟩
theorem yF {nm:List UInt8} (h:nm=[114,117,110]):Wds nm false false true false:=by subst h;exact⟨(bq _ _).trans (by decide),(bq _ _).trans (by decide),(bq _ _).trans (by decide),(bq _ _).trans (by decide)⟩
theorem vu {nm:List UInt8} (h:nm=[110,101,101,100,115]):Wds nm false false false true:=by subst h;exact⟨(bq _ _).trans (by decide),(bq _ _).trans (by decide),(bq _ _).trans (by decide),(bq _ _).trans (by decide)⟩
theorem Bj {nm:List UInt8} (h1:nm≠[100,101,110,115,101]) (h2:nm≠[109,105,120]) (h3:nm≠[114,117,110]) (h4:nm≠[110,101,101,100,115]):Wds nm false false false false:=⟨(bq _ _).trans (by simpa using h1),(bq _ _).trans (by simpa using h2),(bq _ _).trans (by simpa using h3),(bq _ _).trans (by simpa using h4)⟩
theorem words (nm:List UInt8):nm=[100,101,110,115,101]\/nm=[109,105,120]\/nm=[114,117,110]\/nm=[110,101,101,100,115]\/(nm≠[100,101,110,115,101]/\nm≠[109,105,120]/\nm≠[114,117,110]/\nm≠[110,101,101,100,115]):=by
 by_cases h1:nm=[100,101,110,115,101]
 ·exact .inl h1
 ·by_cases h2:nm=[109,105,120]
  ·exact .inr (.inl h2)
  ·by_cases h3:nm=[114,117,110]
   ·exact .inr (.inr (.inl h3))
   ·by_cases h4:nm=[110,101,101,100,115]
    ·exact .inr (.inr (.inr (.inl h4)))
    ·exact .inr (.inr (.inr (.inr ⟨h1,h2,h3,h4⟩)))
theorem mq {l:List UInt8} (h:l≠[]):(bs l).toList.isEmpty=false:=by
 rw[ByteArray.toList_eq]
 cases l with
 | nil=>exact absurd rfl h
 | cons=>rfl
theorem xG {l:List UInt8} (h:(Lib.cut l [32]).2.2=false):(Lib.cut l [32]).1=l:=by
 unfold Lib.cut at h ⊢
 by_cases g:0<=Lib.index l [32]
 ·simp[g] at h
 ·simp[g]
def Gd (ps:List (List UInt8)) (k:Nat) (gd:Bool) (ms:List Mx):Prop:=if gd=true then RdA (ps.take k) ms else ∃ i p,i<k/\ps[i]?=some p/\∀ m,mvB m=true->mt m≠p
theorem Gd.next {ps:List (List UInt8)} {k:Nat} {gd ok:Bool} {ms:List Mx} {p:List UInt8} {m:Mx} (h:Gd ps k gd ms) (hp:ps[k]?=some p) (hm:RMp p m ok):Gd ps (k+1) (gd && ok) (ms++[m]):=by
 unfold Gd at h ⊢
 cases gd
 ·obtain⟨i,yq,hi,hq,hn⟩:=h
  exact⟨i,yq,by omega,hq,hn⟩
 ·rcases hm with⟨rfl,h1,h2⟩|⟨rfl,_,h1⟩
  ·exact RdA.snoc h hp h1 h2
  ·exact⟨k,p,by omega,hp,h1⟩
theorem Gd.yes {ps:List (List UInt8)} {ms:List Mx} (h:Gd ps ps.length true ms):RdA ps ms:=by
 have h:RdA (ps.take ps.length) ms:=h
 rwa [List.take_length] at h
theorem Gd.no {ps:List (List UInt8)} {k:Nat} {ms:List Mx} (h:Gd ps k false ms) (ms':List Mx) (h':RdA ps ms'):False:=by
 obtain⟨i,p,hi,hp,hn⟩:=h;obtain⟨m,hm,_⟩:=aH (xs:=ms') (j:=i) (by rw[<-h'.1];exact(List.getElem?_eq_some_iff.1 hp).1)
 obtain⟨h1,h2⟩:=h'.2 i p m hp hm
 exact hn m h1 h2
theorem RdA.ms {ps:List (List UInt8)} {ms:List Mx} (h:RdA ps ms):∀ m,m∈ms->mvB m=true:=by
 intro m hm;obtain⟨i,hi,e⟩:=List.mem_iff_getElem.1 hm;obtain⟨p,hp,_⟩:=aH (xs:=ps) (j:=i) (by rw[h.1];exact hi)
 exact(h.2 i p m hp (by rw[List.getElem?_eq_getElem hi,e])).1
section
variable {net:List SL} {s:Int} {l nm tx:List UInt8} {k:Nat} {f:List Mx->List SL->Int->Option Res} {ms:List Mx}
theorem wB (h1:(Lib.cut l [32]).1=nm) (hc:ei nm=none):LnR net s l ((net,s),fa):=by unfold LnR;rw[h1,hc]
theorem mR (h1:(Lib.cut l [32]).1=nm) (h2:(Lib.cut l [32]).2.1=tx) (hc:ei nm=some (k,f)) (hk:0<k) (ht:tx=[]):LnR net s l ((net,s),fa):=by unfold LnR;rw[h1,hc];exact .inl ⟨.inr ⟨hk,by rw[h2,ht]⟩,rfl⟩
theorem nP (h1:(Lib.cut l [32]).1=nm) (h2:(Lib.cut l [32]).2.1=tx) (hc:ei nm=some (k,f)) (hk:0<k) (ht:tx≠[]) (h:∀ ms,RdM k tx ms->f ms net s=none):LnR net s l ((net,s),tNo):=by
 unfold LnR;rw[h1,hc];refine .inr ⟨?_,?_⟩
 ·rintro(⟨e,_⟩|⟨_,e⟩)
  ·omega
  ·exact ht (by rw[<-h2];exact e)
 ·by_cases e:∃ ms,RdM k tx ms
  ·obtain⟨ms,e⟩:=e
   exact .inl ⟨ms,by rw[h2];exact e,by rw[h ms e];rfl⟩
  ·exact .inr ⟨fun ms k=>e ⟨ms,by rw[<-h2];exact k⟩,rfl⟩
theorem lH (h1:(Lib.cut l [32]).1=nm) (h2:(Lib.cut l [32]).2.1=tx) (hc:ei nm=some (k,f)) (hk:0<k) (ht:tx≠[]) (hr:RdA (dm tx) ms) (hl:ms.length=k\/f ms net s=none):LnR net s l ((f ms net s).getD ((net,s),tNo)):=by
 by_cases e:ms.length=k
 ·unfold LnR;rw[h1,hc];refine .inr ⟨?_,.inl ⟨ms,by rw[h2];exact⟨e,fun _=>hr⟩,rfl⟩⟩
  rintro(⟨e,_⟩|⟨_,e⟩)
  ·omega
  ·exact ht (by rw[<-h2];exact e)
 ·rw[hl.resolve_left e]
  exact nP h1 h2 hc hk ht fun ms' h=>absurd (h.1) (by rw[(h.2 hk).one hr];exact e)
end
theorem CE {ms:List Mx} (h:aL 1 ms=true):ms.length=2:=by
 rcases eM (l:=((1:Int),ms)) h with⟨_,a,b,e,_⟩|⟨e,_⟩|⟨e,_⟩
 ·rw[show ms=[a,b] from e];rfl
 ·cases e
 ·cases e
theorem CF {ms:List Mx} (h:aL 3 ms=true):ms.length=3:=by
 rcases eM (l:=((3:Int),ms)) h with⟨e,_⟩|⟨e,_⟩|⟨_,a,b,c,e,_⟩
 ·cases e
 ·cases e
 ·rw[show ms=[a,b,c] from e];rfl
theorem uo {kd:Int} {ms:List Mx} {net:List SL} {s:Int} (h:aL kd ms≠true):dI kd ms net s=none:=by unfold dI;rw[if_neg (fun e=>h e.1)]
theorem Bf {sep:List UInt8} (hs:3<=sep.length):∀ (n:Nat) (t:List UInt8),t.length<=n->3*(Lib.split t sep).length<=t.length+3:=by
 intro n
 induction n with
 | zero =>
  intro t ht;have:t=[]:=List.eq_nil_of_length_eq_zero (by omega)
  subst this;rcases Lib.index_spec ([]:List UInt8) sep with⟨h,_⟩|⟨i,_,_,h,_⟩
  ·rw[ie h];simp
  ·have h2:=congrArg List.length (qp h)
   simp at h2
   omega
 | succ n ih =>
  intro t ht;rcases Lib.index_spec t sep with⟨h,_⟩|⟨i,h1,_,h,_⟩
  ·rw[ie h];simp
  ·have h2:=congrArg List.length (qp h);simp only[List.length_append,List.length_take,List.length_drop] at h2;rw[lQ (by intro e;rw[e] at hs;simp at hs) h1]
   have:=ih (t.drop (i+sep.length)) (by rw[List.length_drop];omega)
   rw[List.length_cons,List.length_drop] at *
   omega
theorem wP {l:List UInt8} (h:l.length<=1048576):(dm l).length<=400000:=by
 have:=Bf (sep:=eP) (by decide) l.length l Ql
 unfold dm
 omega
theorem u_ {l p:List UInt8} (h:p∈dm l):p.length<=l.length:=bX (by decide) h
def LnN (w:World) (e:Ending) (w':World):Prop:=e= .returned (.tuple #[.agg #[.slice none 0 0,.int .i64 0],.string (bs [])])/\Below w.heap.size w w'
theorem kN {net:List SL} {s:Int} (hv:svB (net,s)=false) (hss:svS (net,s)) {l:List UInt8} {A:Option Addr} {cap:Nat} {F:List Nat} (w:World) (hx:RI (kE smE) w A net.length cap net F) :
  Calls prog 10 #[.agg #[.slice A net.length cap,.int .i64 s],.string (bs l)] w (LnN w):=by
 have HSV:=Qh hv;have HSS:=Qh hss;have HX:=Qh hx;clear hv hss hx;refine zE ?_;intro u1 H;refine zI (iT HSS.out u1 (HX.out.below H.O)) ?_;clear H;intro w2 AO cO FO u2 H;refine zG (iS u2 [.slice AO net.length cO,.int .i64 s] (net,s) FO ⟨AO,cO,rfl,(H.f 0).1⟩ HSS.out) ?_;rintro e w3 ⟨rfl,hb⟩;replace H:=H.b hb;rw[HSV.out];clear hb;refine zS_ ?_;clear H;intro u4 H
 exact⟨rfl,H.O⟩
theorem kf {net:List SL} {s:Int} (hv:svB (net,s)=false) (hss:svS (net,s)) {l:List UInt8} {A:Option Addr} {cap:Nat} {F:List Nat} (w:World) (hx:RI (kE smE) w A net.length cap net F) :
  Calls prog 9 #[.agg #[.slice A net.length cap,.int .i64 s],.string (bs l)] w (LnN w):=by
 have HSV:=Qh hv;have HSS:=Qh hss;have HX:=Qh hx;clear hv hss hx;refine zE ?_;intro u1 H;refine zG (iM u1 [.slice A net.length cap,.int .i64 s] (net,s) F ⟨A,cap,rfl,HX.out.below H.O⟩ HSS.out) ?_;rintro e w2 ⟨rfl,hb⟩;replace H:=H.b hb;rw[HSV.out];clear hb;refine zS_ ?_;clear H;intro u3 H
 exact⟨rfl,H.O⟩
theorem mL {net:List SL} {s:Int} (h:jO net s) {l:List UInt8} (hl:l.length<=1048576) {A:Option Addr} {cap:Nat} {F:List Nat} (w:World) (hx:RI (kE smE) w A net.length cap net F) :
  Calls prog 10 #[.agg #[.slice A net.length cap,.int .i64 s],.string (bs l)] w (LnP net s l w):=by
 obtain⟨nm,hc1⟩:∃ x,x=(Lib.cut l [32]).1:=⟨_,rfl⟩;obtain⟨tx,hc2⟩:∃ x,x=(Lib.cut l [32]).2.1:=⟨_,rfl⟩;obtain⟨np,hnp⟩:∃ n,n=(dm tx).length:=⟨_,rfl⟩;have htl:tx.length<=1048576:=by rw[hc2];exact Nat.le_trans (tR l) hl
 have hn4:np<=400000:=by rw[hnp];exact wP htl
 have HC1:Hid ((Lib.cut l [32]).1=nm):=hc1.symm;have HC2:Hid ((Lib.cut l [32]).2.1=tx):=hc2.symm;have HSV:Hid (svB (net,s)=true):=by unfold Hid svB;rw[h.1,h.2];rfl
 have HSS:Hid (svS (net,s)):=mg h.1;have HNS:=Qh (mg h.1);have HOK:=Qh h.1;have HSD:=Qh h.2;have H4:=Qh (du h.1).1;have HNP:=Qh hnp;have HTL:=Qh htl;have HN4:=Qh hn4;have HL:=Qh hl;have HX:=Qh hx;clear hc1 hc2 h hl hx hnp htl hn4;refine zE ?_;intro u1 H;refine zI (iT HSS.out u1 (HX.out.below H.O)) ?_;clear H;intro w2 AO cO FO u2 H;refine zG (iS u2 [.slice AO net.length cO,.int .i64 s] (net,s) FO ⟨AO,cO,rfl,(H.f 0).1⟩ HSS.out) ?_;rintro e w3 ⟨rfl,hb⟩;replace H:=H.b hb;rw[HSV.out];clear hb;refine zN ?_;clear H;intro u4 H;refine zG (GZ HOK.out u4 (H.f 0).1) ?_;rintro e w5 ⟨AN,cN,cssN,FN,rfl,hox,hb⟩;replace H:=H.ox hb hox;clear hox hb;replace H:=H.d 1;refine zN ?_;clear H;intro u6 H;refine zG (qG l HL.out u6) ?_;rintro e w7 ⟨rfl,hb⟩;replace H:=H.b hb;rw[HC1.out,HC2.out];clear hb;refine zC ?_;intro C;intros
 go_wp2_with fail
 refine nqC (Hq.bsX (T:=37) H mxE rfl) ?_;clear H C;intro u8 H;refine zG (qF tx HTL.out u8) ?_;rintro e w9 ⟨AP,cP,cssP,FP,rfl,hox,hb⟩;replace H:=H.ox hb hox;clear hox hb;rw[<-HNP.out] at H ⊢;refine zN ?_;clear H;intro u10 H;replace H:=((((((H.r 5).r 5).r 4).r 5).r 4).r 5);obtain⟨gY,hgY⟩:∃ g,g=w5.heap.size:=⟨_,rfl⟩;rw[<-hgY] at H ⊢;clear hgY;intros
 go_loopw [12,9,10] (fun vk vl vg wr=>∃ (k cL:Nat) (AL:Option Addr) (cssL:List (List Value)) (ms:List Mx) (FL:List Nat) (gd:Bool),k<=np/\vk= .int .i64 k/\vl= .slice AL k cL/\vg= .bool gd/\Hid (Gd (dm tx) k gd ms)/\Hid (Hq w [qX mxE w.heap.size 37 AL k cL cssL ms FL,qX txE w.heap.size 9 AP np cP cssP (dm tx) FP,qX (kE smE) w.heap.size 99 AN net.length cN cssN net FN,qB gY 25 [.slice AN net.length cN,.int .i64 s],qB (w.heap.size+1) 25 [.slice none 0 0,.int .i64 0],qB w.heap.size 25 [.slice AO net.length cO,.int .i64 s]] wr)) (fun vk _ _ _=>np-(intOf vk).toNat)
 case atStart=>exact⟨0,0,_,[],[],[],true,Nat.zero_le _,rfl,rfl,rfl,RdA.nil,H⟩
 case round =>
 clear H;obtain⟨k,cL,AL,cssL,ms,FL,gd,hk,rfl,rfl,rfl,HG,H⟩:=hrel;have H:=H.out;have hk4:k<=400000:=Nat.le_trans hk HN4.out
 by_cases hlt:k<np
 ·obtain⟨p,hp,hmem⟩:=aH (xs:=dm tx) (j:=k) (by rw[<-HNP.out];exact hlt)
  have HP:=Qh hp;have HPL:Hid (p.length<=1048576):=Nat.le_trans (u_ hmem) HTL.out;obtain⟨F9,hri,-,-⟩:=OX.rf (H.x 1);obtain⟨b,off,cs,F8,rfl,hb9,hc9,_,hcs⟩:=hri.cells hp 1 rfl;obtain⟨rfl,-⟩:=hcs;have hc0:wr.cell? ⟨b,off+k,none⟩=some (.string (bs p)):=by have:=hc9 0 (by omega);simpa using this
  have zb:=hb9;have k0:(0:Int)<=(k:Int):=by omega
  have k1:(k:Int)<(np:Int):=by omega
  clear hp hmem hri hc9 hb9;refine zN ?_;clear H;intro u21 H;refine zG (qy p HPL.out u21) ?_;rintro e w22 ⟨m,ok,Am,cm,rfl,hos,hrm,hb⟩;replace H:=H.os hb hos;clear hos hb;have HGN:=Qh (HG.out.next HP.out hrm);clear hrm hc0 zb
  cases gd <;> cases ok
  all_goals
   refine zC ?_;intro C;intros
   go_wp2_with (at_builtin;refine zM ?_)
   clear H C;intro u23 H;have hx:mxE.P u23 [.int .i64 m.r,.int .i64 m.c,.slice Am m.v.length cm] m (fpI Am m.v.length):=⟨Am,cm,rfl,MF.aB (H.o 2)⟩;have hf:=ek (H.o 2);replace H:=((H.r 2).r 3);refine zAx (an4 apM hx hf (fun i hi=>(bz hi).2)) ?_;clear H hx hf;intro g1 k1 w21 H
   replace H:=((H.d 1).d 1);refine zC ?_;intro C;intros;go_wp2
   go_roundw
   case rel=>exact⟨k+1,k1,some ⟨g1,0,none⟩,_,_,_,_,by omega,by go_num,rfl,rfl,HGN,H⟩
   case measure=>simp[intOf];omega
 ·obtain rfl:k=np:=by omega
  obtain rfl:ms.length=k:=(H.x 0).2.1;refine zN ?_;clear H;intro u41 H;obtain⟨F9,hri,-⟩:=OX.rf (H.x 2);refine zG (je _ _ _ net _ u41 hri HNS.out) ?_;rintro e w42 ⟨AJ,nj,cj,FJ,rfl,hrj,hfr,hb⟩;replace H:=H.rf hb hrj hfr;rw[HOK.out];obtain rfl:=hrj.len;clear hrj hfr hb hri;replace H:=H.d 2
  by_cases hr:l=[114,97,109,112]
  ·have c0:((bs l).toList == [114,97,109,112])=true:=(bq _ _).trans (by rw[hr];decide)
   have HLN:Hid (LnR net s l ((dI 2 [] net s).getD ((net,s),tNo))):=by unfold Hid LnR;rw[hr];exact .inr ⟨by rintro(⟨_,h⟩|⟨h,_⟩);cases h;omega,.inl ⟨[],⟨rfl,fun h=>absurd h (by omega)⟩,rfl⟩⟩
   clear hr;refine zN ?_;clear H;intro u43 H;have hri:RI mxE u43 none 0 0 [] []:=RI.nil _ _ (by unfold maxLen;omega)
   have hmS:∀ m,m∈([]:List Mx)->mS m:=fun m h=>by cases h
   have hml:([]:List Mx).length<=1048576:=by simp
   refine zG (jR (kd:=2) (ms:=[]) H4.out HSD.out u43 H.m (H.x 2) hri hmS hml) ?_;rintro e w44 hr;obtain⟨A5,c5,css5,F5,rfl,X5,hu⟩:=AdR.all hr;clear hr hri hmS hml;replace H:=Hq.ul (H.r 2) hu (fun i hi=>hi)
   replace H:=H.d 0;replace H:=H.d 0;replace H:=Hq.adV H X5;clear X5 hu;obtain⟨r,hres⟩:∃ r,r=(dI 2 [] net s).getD ((net,s),tNo):=⟨_,rfl⟩;rw[<-hres] at H HLN ⊢;clear hres;refine zS_ ?_;clear H;intro u45 H
   exact⟨r,A5,c5,css5,F5,HLN.out,rfl,(H.x 0),H.O⟩
  ·have c0:((bs l).toList == [114,97,109,112])=false:=(bq _ _).trans (by simpa using hr)
   have HRP:=Qh hr;clear hr;rcases words nm with hw|hw|hw|hw|hw
   ·obtain⟨c1,c2,c3,c4⟩:=vr hw;have hcm:ei nm=some (2,fun ms=>dI 1 ms):=by rw[hw];rfl
    have HCM:=Qh hcm;clear hcm hw
    by_cases ht:tx=[]
    ·have te:(bs tx).toList.isEmpty=true:=by rw[ht,ByteArray.toList_eq];rfl
     have HLN:=Qh (mR (net:=net) (s:=s) HC1.out HC2.out HCM.out (by omega) ht)
     clear ht;refine zS_ ?_;clear H;intro u43 H
     exact⟨((net,s),fa),AN,cN,cssN,FN,HLN.out,rfl,(H.x 2),H.O⟩
    ·have HTX:=Qh ht;clear ht
     cases gd with
     | false =>
      have te:(bs tx).toList.isEmpty=false:=mq HTX.out;have HLN:=Qh (nP (net:=net) (s:=s) HC1.out HC2.out HCM.out (by omega) HTX.out fun ms h=>absurd (h.2 (by omega)) (Gd.no HG.out _))
      refine zS_ ?_;clear H;intro u43 H
      exact⟨((net,s),tNo),AN,cN,cssN,FN,HLN.out,rfl,(H.x 2),H.O⟩
     | true =>
      have HRD:=Qh (Gd.yes (ms:=ms) (by have:=HG.out;rwa [HNP.out] at this))
      have te:(bs tx).toList.isEmpty=false:=mq HTX.out;have HLN:=Qh (lH (net:=net) (s:=s) HC1.out HC2.out HCM.out (by omega) HTX.out HRD.out (Classical.or_iff_not_imp_left.2 fun h=>uo fun e=>h (CE e)))
      refine zN ?_;clear H;intro u43 H;obtain⟨FM,hri,-⟩:=OX.rf (H.x 1);have hmS:∀ m,m∈ms->mS m:=fun m hm=>by have:=dy (HRD.out.ms m hm);unfold mS;omega
      have hml:ms.length<=1048576:=by have:=HN4.out;omega
      refine zG (jR (kd:=1) (ms:=ms) H4.out HSD.out u43 H.m (H.x 2) hri hmS hml) ?_;rintro e w44 hr;obtain⟨A5,c5,css5,F5,rfl,X5,hu⟩:=AdR.all hr;clear hr hri hmS hml;replace H:=Hq.ul (H.r 2) hu (fun i hi=>hi)
      replace H:=H.d 0;replace H:=H.d 0;replace H:=Hq.adV H X5;clear X5 hu;obtain⟨r,hres⟩:∃ r,r=(dI 1 ms net s).getD ((net,s),tNo):=⟨_,rfl⟩;rw[<-hres] at H HLN ⊢;clear hres;refine zS_ ?_;clear H;intro u45 H
      exact⟨r,A5,c5,css5,F5,HLN.out,rfl,(H.x 0),H.O⟩
   ·obtain⟨c1,c2,c3,c4⟩:=yD hw;have hcm:ei nm=some (3,fun ms=>dI 3 ms):=by rw[hw];rfl
    have HCM:=Qh hcm;clear hcm hw
    by_cases ht:tx=[]
    ·have te:(bs tx).toList.isEmpty=true:=by rw[ht,ByteArray.toList_eq];rfl
     have HLN:=Qh (mR (net:=net) (s:=s) HC1.out HC2.out HCM.out (by omega) ht)
     clear ht;refine zS_ ?_;clear H;intro u43 H
     exact⟨((net,s),fa),AN,cN,cssN,FN,HLN.out,rfl,(H.x 2),H.O⟩
    ·have HTX:=Qh ht;clear ht
     cases gd with
     | false =>
      have te:(bs tx).toList.isEmpty=false:=mq HTX.out;have HLN:=Qh (nP (net:=net) (s:=s) HC1.out HC2.out HCM.out (by omega) HTX.out fun ms h=>absurd (h.2 (by omega)) (Gd.no HG.out _))
      refine zS_ ?_;clear H;intro u43 H
      exact⟨((net,s),tNo),AN,cN,cssN,FN,HLN.out,rfl,(H.x 2),H.O⟩
     | true =>
      have HRD:=Qh (Gd.yes (ms:=ms) (by have:=HG.out;rwa [HNP.out] at this))
      have te:(bs tx).toList.isEmpty=false:=mq HTX.out;have HLN:=Qh (lH (net:=net) (s:=s) HC1.out HC2.out HCM.out (by omega) HTX.out HRD.out (Classical.or_iff_not_imp_left.2 fun h=>uo fun e=>h (CF e)))
      refine zN ?_;clear H;intro u43 H;obtain⟨FM,hri,-⟩:=OX.rf (H.x 1);have hmS:∀ m,m∈ms->mS m:=fun m hm=>by have:=dy (HRD.out.ms m hm);unfold mS;omega
      have hml:ms.length<=1048576:=by have:=HN4.out;omega
      refine zG (jR (kd:=3) (ms:=ms) H4.out HSD.out u43 H.m (H.x 2) hri hmS hml) ?_;rintro e w44 hr;obtain⟨A5,c5,css5,F5,rfl,X5,hu⟩:=AdR.all hr;clear hr hri hmS hml;replace H:=Hq.ul (H.r 2) hu (fun i hi=>hi)
      replace H:=H.d 0;replace H:=H.d 0;replace H:=Hq.adV H X5;clear X5 hu;obtain⟨r,hres⟩:∃ r,r=(dI 3 ms net s).getD ((net,s),tNo):=⟨_,rfl⟩;rw[<-hres] at H HLN ⊢;clear hres;refine zS_ ?_;clear H;intro u45 H
      exact⟨r,A5,c5,css5,F5,HLN.out,rfl,(H.x 0),H.O⟩
   ·obtain⟨c1,c2,c3,c4⟩:=yF hw;have hcm:ei nm=some (1,fun ms=>ic (ms.getD 0 Mx.z)):=by rw[hw];rfl
    have HCM:=Qh hcm;clear hcm hw
    by_cases ht:tx=[]
    ·have te:(bs tx).toList.isEmpty=true:=by rw[ht,ByteArray.toList_eq];rfl
     have HLN:=Qh (mR (net:=net) (s:=s) HC1.out HC2.out HCM.out (by omega) ht)
     clear ht;refine zS_ ?_;clear H;intro u43 H
     exact⟨((net,s),fa),AN,cN,cssN,FN,HLN.out,rfl,(H.x 2),H.O⟩
    ·have HTX:=Qh ht;clear ht
     cases gd with
     | false =>
      have te:(bs tx).toList.isEmpty=false:=mq HTX.out;have HLN:=Qh (nP (net:=net) (s:=s) HC1.out HC2.out HCM.out (by omega) HTX.out fun ms h=>absurd (h.2 (by omega)) (Gd.no HG.out _))
      refine zS_ ?_;clear H;intro u43 H
      exact⟨((net,s),tNo),AN,cN,cssN,FN,HLN.out,rfl,(H.x 2),H.O⟩
     | true =>
      have HRD:=Qh (Gd.yes (ms:=ms) (by have:=HG.out;rwa [HNP.out] at this))
      by_cases h1:ms.length=1
      ·obtain⟨m,rfl⟩:=List.length_eq_one_iff.1 h1;have hmv:mvB m=true:=HRD.out.ms m (by simp)
       have HMS:Hid (mS m):=by have:=dy hmv;unfold Hid mS;omega
       obtain⟨hz1,hz2,hz3,hz4⟩:=jg hmv HSD.out;obtain⟨z,hz⟩:∃ z,z=cH m s:=⟨_,rfl⟩;have HZ:=Qh hz;rw[<-hz] at hz1 hz2 hz3 hz4;have HZ1:=Qh hz1;have HZ4:=Qh hz4
       by_cases hfit:(bE (bh net) (some (m.r,m.c))).isSome=true
       ·have te:(bs tx).toList.isEmpty=false:=mq HTX.out;have HFZ:Hid ((bE (bh net) (some (z.1.1.r,z.1.1.c))).isSome=true):=by show _=_;rw[hz2,hz3];simpa using hfit
        obtain⟨hy1,hy2⟩:=tm HOK.out hmv HSD.out hfit;obtain⟨y,hy⟩:∃ y,y=fD net (z.1,z.2):=⟨_,rfl⟩;have HLN:Hid (LnR net s l ((net,y.2),mt (aq y.1))):=by have h:=lH (net:=net) (s:=s) HC1.out HC2.out HCM.out (by omega) HTX.out HRD.out (.inl rfl);rw[show ic ([m].getD 0 Mx.z) net s=some ((net,y.2),mt (aq y.1)) from by show ic m net s=_;unfold ic;rw[if_pos hfit,<-hz,hy]] at h;exact h
        rw[<-hz,show z=(z.1,z.2) from rfl,<-hy] at hy1 hy2
        have HY:=Qh hy;have HY1:=Qh hy1;have HY0:Hid ((y.2 == 0)=false):=by have:=dH hy2;show _=_;simp;omega
        have HJL:Hid ((aq y.1).v.length<=1048576):=by have:=pq y.1;unfold mS at this;exact this
        clear hy hy1 hy2;clear hz hz1 hz2 hz3 hz4 hmv hfit;obtain⟨cs2,g2,rfl,rfl,-,hp2,-⟩:=OX.one (H.x 1);obtain⟨A3,c4,rfl,-⟩:=hp2;refine zN ?_;clear H;intro u43 H;have ez:=(OX.ft (H.x 1)).2.2.2;have E:=H.el;refine zXF (tgF [gY,g2] 9 17 (.cells #[.int .i64 0,.int .i64 0,.slice none 0 0,.int .i64 0,.int .i64 0,.slice none 0 0] 82)) ?_;clear H;intro S w44 hne H;refine zD (H.c 3) ?_;intro G;have r0:=H.row (show World.cell? _ ⟨g2,0,none⟩=some (.int .i64 m.r) from(OX.ft (H.x 1)).2.2.1 0 (by decide))
        have r1:=H.row (show World.cell? _ ⟨g2,1,none⟩=some (.int .i64 m.c) from(OX.ft (H.x 1)).2.2.1 1 (by decide))
        have r2:=H.row (show World.cell? _ ⟨g2,2,none⟩=some (.slice A3 m.v.length c4) from(OX.ft (H.x 1)).2.2.1 2 (by decide))
        intros;refine f_ (fun w45 (hb:Bw w44 w45)=>(show Calls prog 45 #[.agg #[.int .i64 m.r,.int .i64 m.c,.slice A3 m.v.length c4],.int .i64 s] w45 (vB z.1 z.2 w45) from by rw[HZ.out];exact e_ w45 [.int .i64 m.r,.int .i64 m.c,.slice A3 m.v.length c4] m _ (OX.ft ((H.b hb).x 1)).1 HMS.out s)) ?_;clear H
        rintro w45 K hK H e w46 ⟨X,Y,cx,cy,rfl,f1,f2,-,hb⟩;replace H:=H.ss hb f1 f2;clear f1 f2;refine fK ?_;clear hK K hb;refine yG ?_;clear H;intro w47 g47 hg47 H;refine yS ?_;clear H;intro w48 H;refine yN ?_;clear H G;intro u49 H;obtain⟨F9,hri,-⟩:=OX.rf (H.x 4);refine zG ((show Calls prog 46 #[_,_,_] u49 (pM y.1 y.2 u49) from by rw[HY.out];exact DX HOK.out HNS.out HZ1.out HZ4.out HFZ.out u49 hri (H.rs 1))) ?_
        rintro e w50 ⟨PA,pa,PB,pb,C1,cm,ck,cv,rfl,h1,h2,h3,hb⟩;replace H:=H.so hb h1 h2 h3;clear h1 h2 h3 hb hri;have hy0:=HY0.out;refine zN ?_;clear H;intro u51 H;refine zX (tg [w50.heap.size,gY]) ?_;clear H;intro S w52 hne H;refine zD ((And.intro (H.c 0) (H.c 7))) ?_;intro G;refine yO (gi HY1.out w52 (qS.rs (Ow.P1 (H.p 1)))) ?_;clear H;intro w53 J cJ H;refine yB (kM (aq y.1).r (aq y.1).c (aq y.1).v J _ cJ w53 (H.o 0).si HJL.out) ?_;clear H;intro w54 H;refine yS ?_;clear H;intro w55 H;refine yN ?_;clear H G;intro u56 H;refine zS_ ?_;clear H;intro u57 H
        exact⟨((net,y.2),mt (aq y.1)),AN,cN,cssN,FN,HLN.out,rfl,(H.x 7),H.O⟩
       ·have te:(bs tx).toList.isEmpty=false:=mq HTX.out;have HFZ:Hid ((bE (bh net) (some (z.1.1.r,z.1.1.c))).isSome=false):=by show _=_;rw[hz2,hz3];simpa using hfit
        have HLN:Hid (LnR net s l ((net,s),tNo)):=by have h:=lH (net:=net) (s:=s) HC1.out HC2.out HCM.out (by omega) HTX.out HRD.out (.inl rfl);rw[show ic ([m].getD 0 Mx.z) net s=none from by show ic m net s=_;unfold ic;rw[if_neg hfit]] at h;exact h
        clear hz hz1 hz2 hz3 hz4 hmv hfit;obtain⟨cs2,g2,rfl,rfl,-,hp2,-⟩:=OX.one (H.x 1);obtain⟨A3,c4,rfl,-⟩:=hp2;refine zN ?_;clear H;intro u43 H;have ez:=(OX.ft (H.x 1)).2.2.2;have E:=H.el;refine zXF (tgF [gY,g2] 9 17 (.cells #[.int .i64 0,.int .i64 0,.slice none 0 0,.int .i64 0,.int .i64 0,.slice none 0 0] 82)) ?_;clear H;intro S w44 hne H;refine zD (H.c 3) ?_;intro G;have r0:=H.row (show World.cell? _ ⟨g2,0,none⟩=some (.int .i64 m.r) from(OX.ft (H.x 1)).2.2.1 0 (by decide))
        have r1:=H.row (show World.cell? _ ⟨g2,1,none⟩=some (.int .i64 m.c) from(OX.ft (H.x 1)).2.2.1 1 (by decide))
        have r2:=H.row (show World.cell? _ ⟨g2,2,none⟩=some (.slice A3 m.v.length c4) from(OX.ft (H.x 1)).2.2.1 2 (by decide))
        intros;refine f_ (fun w45 (hb:Bw w44 w45)=>(show Calls prog 45 #[.agg #[.int .i64 m.r,.int .i64 m.c,.slice A3 m.v.length c4],.int .i64 s] w45 (vB z.1 z.2 w45) from by rw[HZ.out];exact e_ w45 [.int .i64 m.r,.int .i64 m.c,.slice A3 m.v.length c4] m _ (OX.ft ((H.b hb).x 1)).1 HMS.out s)) ?_;clear H
        rintro w45 K hK H e w46 ⟨X,Y,cx,cy,rfl,f1,f2,-,hb⟩;replace H:=H.ss hb f1 f2;clear f1 f2;refine fK ?_;clear hK K hb;refine yG ?_;clear H;intro w47 g47 hg47 H;refine yS ?_;clear H;intro w48 H;refine yN ?_;clear H G;intro u49 H;obtain⟨F9,hri,-⟩:=OX.rf (H.x 4);refine zG (GW HOK.out HNS.out HZ1.out HZ4.out HFZ.out u49 hri (H.rs 1)) ?_;rintro e w50 ⟨C9,k9,rfl,hb⟩;replace H:=H.b hb;clear hri hb;refine zS_ ?_;clear H;intro u51 H
        exact⟨((net,s),tNo),AN,cN,cssN,FN,HLN.out,rfl,(H.x 5),H.O⟩
      ·have te:(bs tx).toList.isEmpty=false:=mq HTX.out;have hn1:¬(ms.length:Int)=1:=by omega
       have HLN:=Qh (nP (net:=net) (s:=s) HC1.out HC2.out HCM.out (by omega) HTX.out fun ms' h=>absurd h.1 (by rw[(h.2 (by omega)).one HRD.out];exact h1))
       refine zS_ ?_;clear H;intro u43 H
       exact⟨((net,s),tNo),AN,cN,cssN,FN,HLN.out,rfl,(H.x 2),H.O⟩
   ·obtain⟨c1,c2,c3,c4⟩:=vu hw;have hcm:ei nm=some (1,fun ms=>eu (ms.getD 0 Mx.z)):=by rw[hw];rfl
    have HCM:=Qh hcm;clear hcm hw
    by_cases ht:tx=[]
    ·have te:(bs tx).toList.isEmpty=true:=by rw[ht,ByteArray.toList_eq];rfl
     have HLN:=Qh (mR (net:=net) (s:=s) HC1.out HC2.out HCM.out (by omega) ht)
     clear ht;refine zS_ ?_;clear H;intro u43 H
     exact⟨((net,s),fa),AN,cN,cssN,FN,HLN.out,rfl,(H.x 2),H.O⟩
    ·have HTX:=Qh ht;clear ht
     cases gd with
     | false =>
      have te:(bs tx).toList.isEmpty=false:=mq HTX.out;have HLN:=Qh (nP (net:=net) (s:=s) HC1.out HC2.out HCM.out (by omega) HTX.out fun ms h=>absurd (h.2 (by omega)) (Gd.no HG.out _))
      refine zS_ ?_;clear H;intro u43 H
      exact⟨((net,s),tNo),AN,cN,cssN,FN,HLN.out,rfl,(H.x 2),H.O⟩
     | true =>
      have HRD:=Qh (Gd.yes (ms:=ms) (by have:=HG.out;rwa [HNP.out] at this))
      by_cases h1:ms.length=1
      ·obtain⟨m,rfl⟩:=List.length_eq_one_iff.1 h1;have hmv:mvB m=true:=HRD.out.ms m (by simp)
       have HR:=Qh (aA hmv).1;have HCC:=Qh (aA hmv).2;have HNV:=Qh (eN HOK.out)
       by_cases hfit:(bE (bh net) (some (m.r,m.c))).isSome=true
       ·have te:(bs tx).toList.isEmpty=false:=mq HTX.out;obtain⟨N,hN⟩:∃ N,N=(ndN (bh net) (Nd.z,some (m.r,m.c))).1:=⟨_,rfl⟩;have HLN:Hid (LnR net s l ((net,s),nt [N.a,N.b,N.c,N.d])):=by have h:=lH (net:=net) (s:=s) HC1.out HC2.out HCM.out (by omega) HTX.out HRD.out (.inl rfl);rw[show eu ([m].getD 0 Mx.z) net s=some ((net,s),nt [N.a,N.b,N.c,N.d]) from by show eu m net s=_;unfold eu;rw[if_pos hfit,hN]] at h;exact h
        have HND:=Qh hN;have HFIT:=Qh hfit;clear hN;clear hmv hfit;obtain⟨cs2,g2,rfl,rfl,-,hp2,-⟩:=OX.one (H.x 1);obtain⟨A3,c4,rfl,-⟩:=hp2;refine zN ?_;clear H;intro u43 H;have ez:=(OX.ft (H.x 1)).2.2.2;refine zX (tg [g2]) ?_;clear H;intro S w44 hne H;have r0:=H.row (show World.cell? _ ⟨g2,0,none⟩=some (.int .i64 m.r) from(OX.ft (H.x 1)).2.2.1 0 (by decide))
        have r1:=H.row (show World.cell? _ ⟨g2,1,none⟩=some (.int .i64 m.c) from(OX.ft (H.x 1)).2.2.1 1 (by decide))
        intros;refine y_ ((show Calls prog 49 #[_,_,_] w44 (NSd true w44) from by rw[<-HFIT.out];exact eB HNV.out HR.out HCC.out w44 (H.f 0).1 dU)) ?_
        rintro K hK e w45 ⟨x0,y0,rfl,hb⟩;replace H:=H.b hb;refine yK ?_;clear hK K;refine yN ?_;clear H;intro u46 H;have en:¬g2=w.heap.size+1:=fun e=>Hq.nbx (H.r 1) (h0:=w.heap.size+1) (by repeat (with_reducible first|exact Has.h0|apply Has.t0)) (by rw[e];rfl)
        have ez:=(OX.ft (H.x 1)).2.2.2;refine zX (tg [gY,g2]) ?_;clear H;intro S w47 hne H;refine zD (H.c 3) ?_;intro G;have r0:=H.row (show World.cell? _ ⟨g2,0,none⟩=some (.int .i64 m.r) from(OX.ft (H.x 1)).2.2.1 0 (by decide))
        have r1:=H.row (show World.cell? _ ⟨g2,1,none⟩=some (.int .i64 m.c) from(OX.ft (H.x 1)).2.2.1 1 (by decide))
        refine yB ((show Calls prog 51 #[_,_,_] w47 (fb N w47) from by rw[HND.out];exact sz HNV.out HR.out HCC.out HFIT.out w47 (H.f 0).1 dU)) ?_;clear H;intro w48 H
        refine yB (sA N.a N.b N.c N.d w48) ?_;clear H;intro w49 H;refine yS ?_;clear H;intro w50 H;refine yN ?_;clear H G;intro u51 H;refine zS_ ?_;clear H;intro u52 H
        exact⟨((net,s),nt [N.a,N.b,N.c,N.d]),AN,cN,cssN,FN,HLN.out,rfl,(H.x 2),H.O⟩
       ·have te:(bs tx).toList.isEmpty=false:=mq HTX.out;have HLN:Hid (LnR net s l ((net,s),tNo)):=by have h:=lH (net:=net) (s:=s) HC1.out HC2.out HCM.out (by omega) HTX.out HRD.out (.inl rfl);rw[show eu ([m].getD 0 Mx.z) net s=none from by show eu m net s=_;unfold eu;rw[if_neg hfit]] at h;exact h
        have HFIT:Hid ((bE (bh net) (some (m.r,m.c))).isSome=false):=by unfold Hid;simpa using hfit
        clear hmv hfit;obtain⟨cs2,g2,rfl,rfl,-,hp2,-⟩:=OX.one (H.x 1);obtain⟨A3,c4,rfl,-⟩:=hp2;refine zN ?_;clear H;intro u43 H;have ez:=(OX.ft (H.x 1)).2.2.2;refine zX (tg [g2]) ?_;clear H;intro S w44 hne H;have r0:=H.row (show World.cell? _ ⟨g2,0,none⟩=some (.int .i64 m.r) from(OX.ft (H.x 1)).2.2.1 0 (by decide))
        have r1:=H.row (show World.cell? _ ⟨g2,1,none⟩=some (.int .i64 m.c) from(OX.ft (H.x 1)).2.2.1 1 (by decide))
        intros;refine y_ ((show Calls prog 49 #[_,_,_] w44 (NSd false w44) from by rw[<-HFIT.out];exact eB HNV.out HR.out HCC.out w44 (H.f 0).1 dU)) ?_
        rintro K hK e w45 ⟨x0,y0,rfl,hb⟩;replace H:=H.b hb;refine yK ?_;clear hK K;refine yN ?_;clear H;intro u46 H;refine zS_ ?_;clear H;intro u47 H
        exact⟨((net,s),tNo),AN,cN,cssN,FN,HLN.out,rfl,(H.x 2),H.O⟩
      ·have te:(bs tx).toList.isEmpty=false:=mq HTX.out;have hn1:¬(ms.length:Int)=1:=by omega
       have HLN:=Qh (nP (net:=net) (s:=s) HC1.out HC2.out HCM.out (by omega) HTX.out fun ms' h=>absurd h.1 (by rw[(h.2 (by omega)).one HRD.out];exact h1))
       refine zS_ ?_;clear H;intro u43 H
       exact⟨((net,s),tNo),AN,cN,cssN,FN,HLN.out,rfl,(H.x 2),H.O⟩
   ·obtain⟨h1,h2,h3,h4⟩:=hw;obtain⟨c1,c2,c3,c4⟩:=Bj h1 h2 h3 h4;have HLN:Hid (LnR net s l ((net,s),fa)):=by
     by_cases h5:nm=[114,97,109,112]
     ·unfold Hid LnR;rw[HC1.out,h5];refine .inl ⟨.inl ⟨rfl,?_⟩,rfl⟩
      exact Classical.byContradiction fun hc=>HRP.out ((xG (by simpa using hc)).symm.trans (HC1.out.trans h5))
     ·exact wB HC1.out (by unfold ei;rw[if_neg h1,if_neg h5,if_neg h2,if_neg h3,if_neg h4])
    clear h1 h2 h3 h4;refine zS_ ?_;clear H;intro u43 H
    exact⟨((net,s),fa),AN,cN,cssN,FN,HLN.out,rfl,(H.x 2),H.O⟩
end
section
attribute [local go_sem] af ah ae
def Lx (x:List SL×Int) (l:List UInt8) (r:Res):Prop:=if svB x=true then LnR x.1 x.2 l r else r=(([],0),[])
theorem Lx.one {x:List SL×Int} {l:List UInt8} {a b:Res} (h:Lx x l a) (k:Lx x l b):a=b:=by
 unfold Lx at h k
 split at h
 ·rename_i e
  rw[if_pos e] at k
  exact h.one k
 ·rename_i e
  rw[if_neg e] at k;rw[h,k]
theorem xm {x:List SL×Int} (h:svB x=true):jO x.1 x.2:=by
 unfold svB at h
 simpa [jO,Bool.and_eq_true] using h
theorem Lx.nk {x:List SL×Int} {l:List UInt8} {r:Res} (h:Lx x l r):bu r.1.1=true\/r.1.1=[]:=by
 unfold Lx at h
 split at h
 ·rename_i e
  exact .inl (h.ok (xm e)).1
 ·exact .inr (by rw[h])
theorem Lx.sv {x:List SL×Int} {l:List UInt8} {r:Res} (h:Lx x l r):svS r.1:=by
 rcases h.nk with h|h
 ·exact mg h
 ·exact⟨by rw[h];simp,fun l hl=>by rw[h] at hl;cases hl⟩
def LxP (x:List SL×Int) (l:List UInt8) (w:World) (e:Ending) (w':World):Prop:=∃ (r:Res) (A:Option Addr) (c:Nat) (F:List Nat),Lx x l r/\e= .returned (.tuple #[.agg #[.slice A r.1.1.length c,.int .i64 r.1.2],.string (bs r.2)])/\RI (kE smE) w' A r.1.1.length c r.1.1 F/\Fr w' w.heap.size F/\Below w.heap.size w w'
theorem LxP.bad {x:List SL×Int} {l:List UInt8} {w:World} {e:Ending} {w':World} (hv:svB x=false) (h:LnN w e w'):LxP x l w e w':=⟨(([],0),[]),none,0,[],by unfold Lx;rw[hv];rfl,h.1,RI.nil _ _ (by unfold maxLen;omega),Fr.nil _ _,h.2⟩
theorem LxP.yes {x:List SL×Int} {l:List UInt8} {w:World} {e:Ending} {w':World} (hv:svB x=true) (h:LnP x.1 x.2 l w e w'):LxP x l w e w':=by
 obtain⟨r,A,c,css,F,hr,he,hox,hb⟩:=h;obtain⟨F',ri,fr⟩:=hox.ri
 exact⟨r,A,c,F',by unfold Lx;rw[if_pos hv];exact hr,he,ri,fr,hb⟩
theorem BD {x:List SL×Int} (hs:svS x) {l:List UInt8} (hl:l.length<=1048576) {A:Option Addr} {cap:Nat} {F:List Nat} (w:World) (ht:Tab w) (hm:iD w) (hx:RI (kE smE) w A x.1.length cap x.1 F) :
  Calls prog 9 #[.agg #[.slice A x.1.length cap,.int .i64 x.2],.string (bs l)] w (LxP x l w):=by
 cases hv:svB x
 ·exact(kf (net:=x.1) (s:=x.2) hv hs w hx).mono fun e w' h=>LxP.bad hv h
 ·exact(mz (xm hv) hl w ht hm hx).mono fun e w' h=>LxP.yes hv h
theorem CL {x:List SL×Int} (hs:svS x) {l:List UInt8} (hl:l.length<=1048576) {A:Option Addr} {cap:Nat} {F:List Nat} (w:World) (hx:RI (kE smE) w A x.1.length cap x.1 F) :
  Calls prog 10 #[.agg #[.slice A x.1.length cap,.int .i64 x.2],.string (bs l)] w (LxP x l w):=by
 cases hv:svB x
 ·exact(kN (net:=x.1) (s:=x.2) hv hs w hx).mono fun e w' h=>LxP.bad hv h
 ·exact(mL (xm hv) hl w hx).mono fun e w' h=>LxP.yes hv h
end
theorem EF {w:World} {b:Nat} {t:TypeId} {ss:List ByteArray} (h:Blk w b t (ss.map Value.string).toArray) {i:Int} (h0:0<=i) (h1:i<(ss.length:Int)) {B:Nat} (hB:∀ s,s∈ss->s.size<=B):∃ s:ByteArray,w.cell? ⟨b,i.toNat,none⟩=some (.string s)/\s.size<=B:=by
 obtain⟨s,hs,hm⟩:=aH (xs:=ss) (j:=i.toNat) (by omega)
 refine⟨s,?_,hB s hm⟩;rw[h.cell]
 simp[hs]
theorem E5 (m:Mx):(mt m).length<=9000:=by
 by_cases h:mvB m=true
 ·obtain⟨R,C,e1,e2,_,_,hC,_,hl,h25,_⟩:=er h;unfold mt;rw[if_pos h,e1,e2,Int.toNat_natCast,Int.toNat_natCast,<-uz m.v C (by omega) R (by omega)]
  have:=Bg m.v C (R*C)
  omega
 ·unfold mt;rw[if_neg h]
  exact Nat.zero_le _
def Dtx (M:Nat) (w:World) (rb P:Nat) (e:Ending) (w':World):Prop:=∃ t:ByteArray,e= .returned (.string t)/\t.size<=M/\Rd w' rb P/\aZ rb w w'
theorem lf (rb P:Nat) (r c:Int) (hr:1<=r/\r<=5) (hc:1<=c/\c<=5) (w:World) (h:Rd w rb P) (hP:P<900000):Calls prog 75 #[.pointer (some ⟨rb,0,none⟩),.int .i64 r,.int .i64 c] w (Dtx 9000 w rb (P+220)):=by
 have hrw:=h.lt
 go_enter func75,ntmps75
 go_wp2_with fail
 refine(Et rb P r c 0 hr hc (by omega) w h (by omega)).mono ?_
 rintro e w4 ⟨r',c',A',cp,v,rfl,hos,hvl,hr4,ho⟩;have l4:=hr4.lt
 go_wp2_with fail
 refine(kM r' c' v A' _ cp w4 hos.si (by omega)).mono ?_
 rintro e w5 ⟨rfl,hb⟩;have R5:=Qh (hr4.below hb);have O5:=Qh (ho.below hb);obtain⟨s,hs⟩:∃ s,s=bs (mt ⟨r',c',v⟩):=⟨_,rfl⟩;have HS9:Hid (s.size<=9000):=by rw[hs];unfold Hid;rw[aK];exact E5 _
 rw[<-hs];clear hs hos hr4 ho hb;go_wp2
 go_ret
 exact⟨s,rfl,HS9.out,R5.out,O5.out⟩
theorem EN (rb P:Nat) (w:World) (h:Rd w rb P) (hP:P<800000):Calls prog 33 #[.pointer (some ⟨rb,0,none⟩)] w (Dtx 40000 w rb (P+1800)):=by
 have hrw:=h.lt
 go_enter func33,ntmps33
 go_wp2_with fail
 refine(EG rb P 6 (by omega) w h (by omega)).mono ?_
 rintro e w1 ⟨od,rfl,r1,o1⟩;have l1:=r1.lt
 cases od
 ·go_wp2_with fail
  refine(FE rb (P+1) 2 w1 r1 (by omega)).mono ?_
  rintro e w2 ⟨a,rfl,a0,a1,r2,q2⟩;have l2:=r2.lt;have T2:=o1.trans q2;clear r1 q2 o1;have hsd:1<=1+a/\1+a<=5:=by omega
  have ha:=IntWalk.i64_in (1+a) (by omega)
  obtain⟨sd,hsd2⟩:∃ s,s=1+a:=⟨_,rfl⟩
  go_wp2_with fail
  refine(lf rb (P+2) (1+a) (1+a) (by omega) (by omega) w2 r2 (by omega)).mono ?_
  rintro e w3 ⟨t1,rfl,z_t1,r3,q3⟩;have l3:=r3.lt;have T3:=T2.trans q3;clear r2 q3 T2;have n_x1:=cK (a:=6) (b:=t1.size) (by omega)
  obtain⟨x1,h_x1⟩:∃ x,(⟨#[100,101,110,115,101,32]⟩:ByteArray)++t1=x:=⟨_,rfl⟩;have z_x1:x1.size=6+t1.size:=by rw[<-h_x1];exact ByteArray.size_append
  have n_x2:=cK (a:=x1.size) (b:=3) (by omega)
  obtain⟨x2,h_x2⟩:∃ x,x1++(⟨#[32,124,32]⟩:ByteArray)=x:=⟨_,rfl⟩;have z_x2:x2.size=x1.size+3:=by rw[<-h_x2];exact ByteArray.size_append
  go_wp2_with fail
  refine(lf rb (P+2+220) (1+a) 1 (by omega) (by omega) w3 r3 (by omega)).mono ?_
  rintro e w4 ⟨t2,rfl,z_t2,r4,q4⟩;have l4:=r4.lt;have T4:=T3.trans q4;clear r3 q4 T3;have n_x3:=cK (a:=x2.size) (b:=t2.size) (by omega)
  obtain⟨x3,h_x3⟩:∃ x,x2++t2=x:=⟨_,rfl⟩;have z_x3:x3.size=x2.size+t2.size:=by rw[<-h_x3];exact ByteArray.size_append
  go_wp2_with fail
  refine(lf rb (P+2+220+220) (1+a) (1+a) (by omega) (by omega) w4 r4 (by omega)).mono ?_
  rintro e w5 ⟨t3,rfl,z_t3,r5,q5⟩;have l5:=r5.lt;have T5:=T4.trans q5;clear r4 q5 T4;have n_x4:=cK (a:=4) (b:=t3.size) (by omega)
  obtain⟨x4,h_x4⟩:∃ x,(⟨#[109,105,120,32]⟩:ByteArray)++t3=x:=⟨_,rfl⟩;have z_x4:x4.size=4+t3.size:=by rw[<-h_x4];exact ByteArray.size_append
  have n_x5:=cK (a:=x4.size) (b:=3) (by omega)
  obtain⟨x5,h_x5⟩:∃ x,x4++(⟨#[32,124,32]⟩:ByteArray)=x:=⟨_,rfl⟩;have z_x5:x5.size=x4.size+3:=by rw[<-h_x5];exact ByteArray.size_append
  go_wp2_with fail
  refine(lf rb (P+2+220+220+220) (1+a) (1+a) (by omega) (by omega) w5 r5 (by omega)).mono ?_
  rintro e w6 ⟨t4,rfl,z_t4,r6,q6⟩;have l6:=r6.lt;have T6:=T5.trans q6;clear r5 q6 T5;have n_x6:=cK (a:=x5.size) (b:=t4.size) (by omega)
  obtain⟨x6,h_x6⟩:∃ x,x5++t4=x:=⟨_,rfl⟩;have z_x6:x6.size=x5.size+t4.size:=by rw[<-h_x6];exact ByteArray.size_append
  have n_x7:=cK (a:=x6.size) (b:=3) (by omega)
  obtain⟨x7,h_x7⟩:∃ x,x6++(⟨#[32,124,32]⟩:ByteArray)=x:=⟨_,rfl⟩;have z_x7:x7.size=x6.size+3:=by rw[<-h_x7];exact ByteArray.size_append
  go_wp2_with fail
  refine(lf rb (P+2+220+220+220+220) (1+a) (1+a) (by omega) (by omega) w6 r6 (by omega)).mono ?_
  rintro e w7 ⟨t5,rfl,z_t5,r7,q7⟩;have l7:=r7.lt;have T7:=T6.trans q7;clear r6 q7 T6;have n_x8:=cK (a:=x7.size) (b:=t5.size) (by omega)
  obtain⟨x8,h_x8⟩:∃ x,x7++t5=x:=⟨_,rfl⟩;have z_x8:x8.size=x7.size+t5.size:=by rw[<-h_x8];exact ByteArray.size_append
  go_wp2_with fail
  refine(lf rb (P+2+220+220+220+220+220) (1+a) (1+a) (by omega) (by omega) w7 r7 (by omega)).mono ?_
  rintro e w8 ⟨t6,rfl,z_t6,r8,q8⟩;have l8:=r8.lt;have T8:=T7.trans q8;clear r7 q8 T7;have n_x9:=cK (a:=4) (b:=t6.size) (by omega)
  obtain⟨x9,h_x9⟩:∃ x,(⟨#[114,117,110,32]⟩:ByteArray)++t6=x:=⟨_,rfl⟩;have z_x9:x9.size=4+t6.size:=by rw[<-h_x9];exact ByteArray.size_append
  go_wp2_with fail
  refine(FE rb (P+2+220+220+220+220+220+220) 2 w8 r8 (by omega)).mono ?_
  rintro e w9 ⟨b,rfl,b0,b1,r9,q9⟩;have l9:=r9.lt;have T9:=T8.trans q9;clear r8 q9 T8;have hb2:=IntWalk.i64_in (1+b) (by omega)
  go_wp2_with fail
  refine(lf rb (P+2+220+220+220+220+220+220+1) (1+a) (1+b) (by omega) (by omega) w9 r9 (by omega)).mono ?_
  rintro e w10 ⟨t7,rfl,z_t7,r10,q10⟩;have l10:=r10.lt;have T10:=T9.trans q10;clear r9 q10 T9;have n_x10:=cK (a:=4) (b:=t7.size) (by omega)
  obtain⟨x10,h_x10⟩:∃ x,(⟨#[114,117,110,32]⟩:ByteArray)++t7=x:=⟨_,rfl⟩;have z_x10:x10.size=4+t7.size:=by rw[<-h_x10];exact ByteArray.size_append
  go_wp2_with fail
  refine(lf rb (P+2+220+220+220+220+220+220+1+220) (1+a) (1+a) (by omega) (by omega) w10 r10 (by omega)).mono ?_
  rintro e w11 ⟨t8,rfl,z_t8,r11,q11⟩;have l11:=r11.lt;have T11:=T10.trans q11;clear r10 q11 T10;have n_x11:=cK (a:=6) (b:=t8.size) (by omega)
  obtain⟨x11,h_x11⟩:∃ x,(⟨#[110,101,101,100,115,32]⟩:ByteArray)++t8=x:=⟨_,rfl⟩;have z_x11:x11.size=6+t8.size:=by rw[<-h_x11];exact ByteArray.size_append
  go_wp2_with fail
  obtain⟨u,hu⟩:∃ u,u=w11.alloc (.cells #[.string ⟨#[114,97,109,112]⟩,.string x3,.string x8,.string x9,.string x10,.string x11] 9):=⟨_,rfl⟩;rw[<-hu];have BU:Blk u w11.heap.size 9 (([⟨#[114,97,109,112]⟩,x3,x8,x9,x10,x11]:List ByteArray).map Value.string).toArray:=by rw[hu];exact Blk.new w11 9 #[.string ⟨#[114,97,109,112]⟩,.string x3,.string x8,.string x9,.string x10,.string x11]
  have RU:Rd u rb (P+2+220+220+220+220+220+220+1+220+220):=by rw[hu];exact r11.alloc _
  have TU:aZ rb w u:=by rw[hu];exact T11.alloc _
  have lu:=BU.lt;clear hu r11 T11;refine(FE rb (P+2+220+220+220+220+220+220+1+220+220) 6 u RU (by omega)).mono ?_
  rintro e w0 ⟨i,rfl,i0,i1,r0,q0⟩;have B0:=BU.only q0 (by omega)
  obtain⟨s,cs,hs⟩:=EF (B:=40000) B0 i0 (show i<((6:Nat):Int) by omega) (by intro s hs;simp only[List.mem_cons,List.not_mem_nil,or_false] at hs;rcases hs with rfl|rfl|rfl|rfl|rfl|rfl <;> first|omega|decide)
  have l0:=B0.lt;have R0:=Qh r0;have T0:=Qh (TU.trans q0);have HS:=Qh hs;clear BU RU TU r0 q0 B0 hs;go_wp2
  go_ret
  exact⟨s,rfl,by have:=HS.out;omega,R0.out.mono (by omega),T0.out⟩
 ·go_wp2_with fail
  obtain⟨u,hu⟩:∃ u,u=w1.alloc (.cells #[.string ⟨#[]⟩,.string ⟨#[100,101,110,115,101]⟩,.string ⟨#[100,101,110,115,101,32,49]⟩,.string ⟨#[100,101,110,115,101,32,49,32,124,32,120]⟩,.string ⟨#[114,97,109,112,32,49]⟩,.string ⟨#[109,105,120,32,49,32,124,32,49]⟩,.string ⟨#[114,117,110]⟩,.string ⟨#[114,117,110,32,120]⟩,.string ⟨#[114,117,110,32,49,32,124,32,49]⟩,.string ⟨#[110,101,101,100,115]⟩,.string ⟨#[82,97,109,112]⟩] 9):=⟨_,rfl⟩;rw[<-hu];have BU:Blk u w1.heap.size 9 (([⟨#[]⟩,⟨#[100,101,110,115,101]⟩,⟨#[100,101,110,115,101,32,49]⟩,⟨#[100,101,110,115,101,32,49,32,124,32,120]⟩,⟨#[114,97,109,112,32,49]⟩,⟨#[109,105,120,32,49,32,124,32,49]⟩,⟨#[114,117,110]⟩,⟨#[114,117,110,32,120]⟩,⟨#[114,117,110,32,49,32,124,32,49]⟩,⟨#[110,101,101,100,115]⟩,⟨#[82,97,109,112]⟩]:List ByteArray).map Value.string).toArray:=by rw[hu];exact Blk.new w1 9 #[.string ⟨#[]⟩,.string ⟨#[100,101,110,115,101]⟩,.string ⟨#[100,101,110,115,101,32,49]⟩,.string ⟨#[100,101,110,115,101,32,49,32,124,32,120]⟩,.string ⟨#[114,97,109,112,32,49]⟩,.string ⟨#[109,105,120,32,49,32,124,32,49]⟩,.string ⟨#[114,117,110]⟩,.string ⟨#[114,117,110,32,120]⟩,.string ⟨#[114,117,110,32,49,32,124,32,49]⟩,.string ⟨#[110,101,101,100,115]⟩,.string ⟨#[82,97,109,112]⟩]
  have RU:Rd u rb (P+1):=by rw[hu];exact r1.alloc _
  have TU:aZ rb w u:=by rw[hu];exact o1.alloc _
  have lu:=BU.lt;clear hu r1 o1;refine(FE rb (P+1) 11 u RU (by omega)).mono ?_
  rintro e w0 ⟨i,rfl,i0,i1,r0,q0⟩;have B0:=BU.only q0 (by omega)
  obtain⟨s,cs,hs⟩:=EF (B:=11) B0 i0 (show i<((11:Nat):Int) by omega) (by intro s hs;simp only[List.mem_cons,List.not_mem_nil,or_false] at hs;rcases hs with rfl|rfl|rfl|rfl|rfl|rfl|rfl|rfl|rfl|rfl|rfl <;> first|omega|decide)
  have l0:=B0.lt;have R0:=Qh r0;have T0:=Qh (TU.trans q0);have HS:=Qh hs;clear BU RU TU r0 q0 B0 hs;go_wp2
  go_ret
  exact⟨s,rfl,by have:=HS.out;omega,R0.out.mono (by omega),T0.out⟩
section
attribute [local go_sem] af ah ae
def DSL (w:World) (e:Ending) (w':World):Prop:=∃ (A:Option Addr) (c:Nat) (x:List (Int×List (Mx×Mx))×Int) (F:List Nat) (t:ByteArray),e= .returned (.tuple #[.agg #[.slice A x.1.length c,.int .i64 x.2],.string t])/\RI (kE smE) w' A x.1.length c x.1 F/\svS x/\t.size<=40000/\Below w.heap.size w w'
theorem DF (A:Option Addr) (len cap:Nat) (w:World) (hl:len<=cap) (hm:cap<=maxLen) (hr:Bytes w w.heap.size A len) (h0:A=none->cap=0):Calls prog 8 #[.slice A len cap] w (DSL w):=by
 obtain⟨u1,hu1⟩:∃ u,u=(w.alloc (.cells #[.slice none 0 0,.int .i64 0] 25)):=⟨_,rfl⟩;have b_1:Blk u1 w.heap.size 25 #[.slice none 0 0,.int .i64 0]:=by rw[hu1];exact Blk.new _ _ _
 have O1:Below w.heap.size w u1:=by rw[hu1];exact Qb.alloc Ql _
 go_enter func8,ntmps8
 go_wp2_with fail
 rw[<-hu1];clear hu1;have q1:w.heap.size<u1.heap.size:=b_1.lt;refine(EM A len cap u1 hl hm (hr.au (fun j hj=>O1.block j hj) |>.mono (by omega)) h0).mono ?_
 rintro e w1 ⟨rfl,r1,hb1,hlt⟩;have b_2:=b_1.aa hb1;have O2:Below w.heap.size w w1:=O1.trans (hb1.mono (by omega))
 have s1:=hb1.size;obtain⟨rb,hrb⟩:∃ rb,rb=u1.heap.size:=⟨_,rfl⟩;rw[<-hrb] at r1 hlt q1 s1 ⊢;clear hr h0 b_1 O1 hb1 hrb
 go_wp2_with fail
 refine(Ei rb 0 14 (by omega) w1 r1 (by omega)).mono ?_
 rintro e w2 ⟨A',c',x,F,rfl,hri,hF,hsv,r2,o2⟩;have b_3:=b_2.only o2 (by omega)
 have O3:Below w.heap.size w w2:=O2.trans (o2.toBelow (by omega) (by omega))
 have s2:=o2.size;have HS:=Qh hsv;have l2:=r2.lt;have z2:=b_3.lt;clear r1 o2 b_2 O2 hsv
 go_wp2_with fail
 obtain⟨u3,hu3⟩:∃ u,u=w2.alloc (.cells #[.slice A' x.1.length c',.int .i64 x.2] 25):=⟨_,rfl⟩;rw[<-hu3];have B5:Blk u3 w2.heap.size 25 #[.slice A' x.1.length c',.int .i64 x.2]:=by rw[hu3];exact Blk.new _ _ _
 have b_4:Blk u3 w.heap.size 25 #[.slice none 0 0,.int .i64 0]:=by rw[hu3];exact b_3.alloc _
 have r3:Rd u3 rb (0+4100):=by rw[hu3];exact r2.alloc _
 have O4:Below w.heap.size w u3:=by rw[hu3];exact O3.alloc O3.size _
 have hri3:RI (kE smE) u3 A' x.1.length c' x.1 F:=by rw[hu3];exact RI.alloc hri _
 obtain⟨g5,hg5⟩:∃ g,g=w2.heap.size:=⟨_,rfl⟩;have l5:=B5.lt;rw[<-hg5] at B5 l5 ⊢;have n5:¬g5=rb:=by omega
 have n6:¬w.heap.size=rb:=by omega
 have n7:¬g5=w.heap.size:=by omega
 have HFR:Hid (∀ g,g∈F->g≠rb/\g≠w.heap.size):=fun g hg=>by have:=hF g hg;omega
 clear hu3 hri b_3 O3 r2 hF hg5 s1 s2 l2 z2;refine Fz (fun w'=>Blk w' g5 25 #[.slice A' x.1.length c',.int .i64 x.2]) (by kernel_rfl) (by kernel_rfl) B5 ?_
 intro hne;have g0:∀ y:Wd (fun w'=>Blk w' g5 25 #[.slice A' x.1.length c',.int .i64 x.2]),y.w.cell? ⟨g5,0,none⟩=some (.slice A' x.1.length c'):=fun y=>y.h.cell 0
 have g1:∀ y:Wd (fun w'=>Blk w' g5 25 #[.slice A' x.1.length c',.int .i64 x.2]),y.w.cell? ⟨g5,1,none⟩=some (.int .i64 x.2):=fun y=>y.h.cell 1
 obtain⟨u4,hu4⟩:∃ u,u=u3.drew:=⟨_,rfl⟩;have B5':Blk u4 g5 25 #[.slice A' x.1.length c',.int .i64 x.2]:=by rw[hu4];exact B5
 have b_5:Blk u4 w.heap.size 25 #[.slice none 0 0,.int .i64 0]:=by rw[hu4];exact b_4
 have r4:Rd u4 rb (0+4100):=by rw[hu4];exact r3.drew
 have O5:Below w.heap.size w u4:=by rw[hu4];exact O4.drew
 have hri4:RI (kE smE) u4 A' x.1.length c' x.1 F:=by rw[hu4];exact hri3.below Qb.drew
 rw[<-hu4];clear hu4 B5 b_4 r3 O4 hri3
 repeat (first|(refine aF (by rfl) (by rfl) ?_;intro K hK;go_big_quiet_op;go_big_quiet_on)|(refine aG (by rfl) ?_))
 refine bj (by rfl) (by rfl) (fun K hK=>?_)
 unfold Oper.gives
 go_simp
 refine(EN rb (0+4100) u4 r4 (by omega)).mono ?_
 rintro e w6 ⟨t,rfl,ht,r6,o6⟩;have B6:=B5'.only o6 n5;have b_6:=b_5.only o6 n6;have O6:Below w.heap.size w w6:=O5.trans (o6.toBelow (by omega) O5.size)
 have hri6:RI (kE smE) w6 A' x.1.length c' x.1 F:=hri4.only o6 (fun h=>(HFR.out rb h).1 rfl)
 refine⟨_,rfl,hK _ _ ⟨⟨_,B6⟩,rfl⟩ ?_⟩;clear hK K B5' b_5 O5 hri4 r4 r6 o6;have z6:=b_6.lt;have c60:w6.cell? ⟨w.heap.size,0,none⟩=some (.slice none 0 0):=b_6.cell 0;have c61:w6.cell? ⟨w.heap.size,1,none⟩=some (.int .i64 0):=b_6.cell 1;have f60:w6.frozen? ⟨w.heap.size,0,none⟩=false:=b_6.frozen 0;have f61:w6.frozen? ⟨w.heap.size,1,none⟩=false:=b_6.frozen 1
 repeat (first|(refine aF (by rfl) (by rfl) ?_;intro K hK;go_big_quiet_op;go_big_quiet_on)|(refine aG (by rfl) ?_))
 refine bj (by rfl) (by rfl) (fun K hK=>?_)
 unfold Oper.gives
 go_simp
 have B7:Blk ((w6.setCell ⟨w.heap.size,0,none⟩ (.slice A' x.1.length c')).setCell ⟨w.heap.size,1,none⟩ (.int .i64 x.2)) g5 25 #[.slice A' x.1.length c',.int .i64 x.2]:=(B6.far (p:=⟨w.heap.size,0,none⟩) n7 _).far (p:=⟨w.heap.size,1,none⟩) n7 _;refine hK _ _ ⟨⟨_,B7⟩,rfl⟩ ?_;clear hK K B6 B7
 repeat (first|(refine aF (by rfl) (by rfl) ?_;intro K hK;go_big_quiet_op;go_big_quiet_on)|(refine aG (by rfl) ?_))
 refine aI ?_;have HT:=Qh ht;have H6:=Qh hri6;have HO:=Qh O6;clear ht hri6 O6 b_6;go_wp2;refine bodyPost_ret (v:= .tuple #[.agg #[.slice A' x.1.length c',.int .i64 x.2],.string t]) (by simp[results,results8,go_sem,c60,c61,f60,f61,z6]) rfl ?_
 refine⟨A',c',x,F,t,rfl,H6.out.au fun g hg=>?_,HS.out,HT.out,(HO.out.setCell (by dsimp only;omega) _).setCell (by dsimp only;omega) _⟩
 have:=(HFR.out g hg).2
 exact(Below.heap_setCell _ _ _ g (by dsimp only;omega)).trans (Below.heap_setCell _ _ _ g (by dsimp only;omega))
end
theorem EH (n:Int):∃ d r,fxn n=d::r/\d.toNat<=57:=by
 unfold fxn dec;have h1:=(e7 (n/16).toNat).1
 cases e:Lib.decDigits (n/16).toNat with
 | nil=>rw[e] at h1;simp at h1
 | cons d r=>exact⟨d,_,rfl,(pS _ d (by rw[e];exact List.mem_cons_self ..)).2⟩
theorem ES (x:Int):∃ d r,fx x=d::r/\d.toNat<=57:=by
 unfold fx;rw[pZ];unfold sg
 split
 ·exact⟨45,_,rfl,by decide⟩
 ·exact EH _
theorem Eu (v:List Int) (c:Nat):∀ k,∃ r,st v c (k+1)=fx (v.getD 0 0)++r
 | 0=>⟨[],by simp[st]⟩
 | k+1=>by
  obtain⟨r,h⟩:=Eu v c k;refine⟨r++((if k+1=0 then [] else if (k+1)%c=0 then [59,32] else [32])++fx (v.getD (k+1) 0)),?_⟩
  rw[st,h]
  simp
theorem ET {m:Mx} (h:mvB m=true):∃ d r,mt m=d::r/\d.toNat<=57:=by
 obtain⟨R,C,e1,e2,hR,_,hC,_,hl,h25,_⟩:=er h;rw[l_ h e1 e2,<-uz m.v C (by omega) R (by omega)]
 have hp:0<R*C:=Nat.mul_pos (by omega) (by omega)
 obtain⟨k,hk⟩:∃ k,R*C=k+1:=⟨R*C-1,by omega⟩
 rw[hk];obtain⟨r,hr⟩:=Eu m.v C k;obtain⟨d,t,hd,h57⟩:=ES (m.v.getD 0 0)
 exact⟨d,t++r,by rw[hr,hd];rfl,h57⟩
theorem Ez:∀ {net:List PL},(∀ l,l∈net->aL l.1 l.2=true)->∀ {o:Option (Int×Int)} {N:Nd} {K:Int},(∀ rc,o=some rc->side rc.1=true/\side rc.2=true)->nB N K->nB (ndN net (N,o)).1 (K+1000*(net.length:Int))
 | [],_,_,_,_,_,hN=>by simpa [ndN] using hN
 | l::net,h,o,N,K,ho,hN=>by
  have hl:=h l (List.mem_cons_self ..)
  cases o with
  | none =>
   have e:(ndN (l::net) (N,none)).1=(ndN net (N.add Nd.z,none)).1:=rfl;rw[e];refine(Ez (net:=net) (fun l hl=>h l (List.mem_cons_of_mem _ hl)) (o:=none) (fun rc hrc=>by cases hrc) (hN.add nB.z (Int.le_refl _))).le ?_
   rw[List.length_cons]
   omega
  | some rc =>
   obtain⟨a,b⟩:=rc;obtain⟨s1,s2⟩:=ho (a,b) rfl;have e:(ndN (l::net) (N,some (a,b))).1=(ndN net (N.add (ndL l (a,b)),dr l (a,b))).1:=rfl;rw[e];refine(Ez (net:=net) (fun l hl=>h l (List.mem_cons_of_mem _ hl)) (o:=dr l (a,b)) (fun rc hrc=>uy hl s1 s2 hrc) (hN.add (wF hl s1 s2) (Int.le_refl _))).le ?_
   rw[List.length_cons]
   omega
theorem Fc {N:Nd} {K:Int} (h:nB N K) (hK:K<=1000000):nt [N.a,N.b,N.c,N.d]≠[]:=by
 have h1:[N.a,N.b,N.c,N.d].all okN=true:=by
  have:=h.a0;have:=h.a1;have:=h.b0;have:=h.b1;have:=h.c0;have:=h.c1;have:=h.d0;have:=h.d1;simp only[List.all_cons,List.all_nil,okN,Bool.and_true,Bool.and_eq_true,decide_eq_true_eq]
  omega
 rw[zj h1];intro e;have h2:=congrArg List.length e;unfold jn at h2;rw[List.map_cons,Lib.join_cons,List.length_append] at h2;have h3:=(e7 N.a.toNat).1;unfold dec at h2
 simp at h2
 rw[h2.1] at h3
 simp at h3
theorem Ff {l:List UInt8} {d:UInt8} {r:List UInt8} (e:l=d::r) (h:d.toNat<=57):l≠[]/\l≠tNo/\l≠fa:=by
 subst e;refine⟨by simp,fun h2=>?_,fun h2=>?_⟩
 ·injection h2 with h2;subst h2
  exact absurd h (by decide)
 ·injection h2 with h2;subst h2
  exact absurd h (by decide)
def LnA (net:List SL) (s:Int) (r:Res):Prop:=r.2≠[]/\(r.2=tNo\/r.2=fa->r.1=(net,s))
theorem LnA.no {net:List SL} {s:Int}:LnA net s ((net,s),tNo):=⟨by simp[tNo],fun _=>rfl⟩
theorem LnA.Ft {net:List SL} {s:Int}:LnA net s ((net,s),fa):=⟨by simp[fa],fun _=>rfl⟩
theorem EB {kd:Int} {ms:List Mx} {net:List SL} {s:Int} {r:Res} (e:dI kd ms net s=some r):LnA net s r:=by
 unfold dI at e
 split at e
 ·injection e with e;subst e
  exact⟨by simp,fun h=>by rcases h with h|h <;> simp[tNo,fa] at h⟩
 ·cases e
theorem Fe {m:Mx} (hm:mvB m=true) {net:List SL} {s:Int} (h:jO net s) {r:Res} (e:ic m net s=some r):LnA net s r:=by
 unfold ic at e
 split at e
 ·rename_i hc
  injection e with e;subst e;obtain⟨d,t,h1,h2⟩:=ET (aN (tm h.1 hm h.2 hc).1).1;obtain⟨k1,k2,k3⟩:=Ff h1 h2
  exact⟨k1,fun h=>h.elim (fun h=>absurd h k2) (fun h=>absurd h k3)⟩
 ·cases e
theorem E6 {m:Mx} (hm:mvB m=true) {net:List SL} {s:Int} (h:jO net s) {r:Res} (e:eu m net s=some r):LnA net s r:=by
 unfold eu at e
 split at e
 ·injection e with e;subst e;obtain⟨n1,n2⟩:=du h.1;have hj:=Ez (net:=bh net) (eN h.1).2 (o:=some (m.r,m.c)) (N:=Nd.z) (K:=0) (fun rc e=>by injection e with e;subst e;exact aA hm) nB.z
  have h4:(bh net).length<=4:=(eN h.1).1
  exact⟨Fc hj (by omega),fun _=>rfl⟩
 ·cases e
theorem Fj {n:List UInt8} {k:Nat} {f:List Mx->List SL->Int->Option Res} (hc:ei n=some (k,f)) {ms:List Mx} (hk:ms.length=k) (hmv:∀ m,m∈ms->mvB m=true) {net:List SL} {s:Int} (h:jO net s) {r:Res} (e:f ms net s=some r):LnA net s r:=by
 unfold ei at hc;have h1:k=1->mvB (ms.getD 0 Mx.z)=true:=fun hk1=>by
  rw[hk1] at hk;obtain⟨a,rfl⟩:=List.length_eq_one_iff.1 hk
  exact hmv _ (by simp)
 split at hc
 ·injection hc with hc;injection hc with h2 h3;subst h3;exact EB e
 split at hc
 ·injection hc with hc;injection hc with h2 h3;subst h3;exact EB e
 split at hc
 ·injection hc with hc;injection hc with h2 h3;subst h3;exact EB e
 split at hc
 ·injection hc with hc;injection hc with h2 h3;subst h3;exact Fe (h1 h2.symm) h e
 split at hc
 ·injection hc with hc;injection hc with h2 h3;subst h3;exact E6 (h1 h2.symm) h e
 ·cases hc
theorem LnR.a {net:List SL} {s:Int} {l:List UInt8} {r:Res} (h:LnR net s l r) (hs:jO net s):LnA net s r:=by
 unfold LnR at h
 cases e:ei (Lib.cut l [32]).1 with
 | none=>rw[e] at h;dsimp only at h;rw[h];exact LnA.Ft
 | some p =>
  rw[e] at h;obtain⟨k,f⟩:=p
  dsimp only at h
  rcases h with⟨_,rfl⟩|⟨_,⟨ms,h2,rfl⟩|⟨_,rfl⟩⟩
  ·exact LnA.Ft
  ·cases e2:f ms net s with
   | none=>exact LnA.no
   | some r=>exact Fj e h2.1 h2.mv hs e2
  ·exact LnA.no
section
attribute [local go_sem] af ah ae
theorem EZ (w:World):Calls prog 13 #[] w fun e w'=>e= .returned (.bool true)/\w=w':=by
 go_enter func13,ntmps13
 go_wp2_with fail
 refine Qc (iL 5 w) ?_;go_wp2
 go_ret
 exact⟨rfl,rfl⟩
end
theorem Ij (x:Int):(124:UInt8)∉fx x:=by
 have hd:∀ m:Int,(124:UInt8)∉dec m:=fun m hm=>absurd (pS _ 124 hm).2 (by decide)
 have hf:∀ r:Fin 16,(124:UInt8)∉fd r.val:=by decide
 have hn:∀ n:Int,(124:UInt8)∉fxn n:=fun n hm=>by
  unfold fxn at hm;rcases List.mem_append.1 hm with hm|hm
  ·exact hd _ hm
  ·split at hm
   ·cases hm
   ·rcases List.mem_cons.1 hm with hm|hm
    ·exact absurd hm (by decide)
    ·exact hf ⟨(n%16).toNat,by omega⟩ hm
 unfold fx fxs
 split
 ·intro hm;rcases List.mem_cons.1 hm with hm|hm
  ·exact absurd hm (by decide)
  ·exact hn _ hm
 ·exact hn _
theorem Ik {m:Mx} (h:mvB m=true):(124:UInt8)∉mt m:=by
 obtain⟨R,C,e1,e2,_⟩:=er h;rw[l_ h e1 e2];unfold mtx;refine wC (by decide) fun x hx=>?_
 obtain⟨k,_,rfl⟩:=List.mem_map.1 hx;unfold rt;refine wC (by decide) fun y hy=>?_
 obtain⟨z,_,rfl⟩:=List.mem_map.1 hy
 exact Ij z
theorem Hh {l:List UInt8} (h:(124:UInt8)∉l):dm l=[l]:=by
 unfold dm;refine ie ?_;rcases Lib.index_spec l eP with⟨e,_⟩|⟨i,_,hi,ho,_⟩
 ·exact e
 ·exfalso
  unfold Lib.occAt at ho;have hp:=List.isPrefixOf_iff_prefix.1 ho
  exact h (List.mem_of_mem_drop (hp.subset (by simp:(124:UInt8)∈eP)))
def G3:List UInt8:=[114,117,110,32]
theorem Ia (t:List UInt8):Lib.cut (G3++t) [32]=([114,117,110],t,true):=by
 have hi:Lib.index (G3++t) [32]=3:=by simp[G3,Lib.index,List.isPrefixOf]
 unfold Lib.cut;rw[hi]
 simp[G3]
theorem H_ {net:List SL} {s:Int} {m:Mx} {r:Res} (hm:mvB m=true) (hs:jO net s) (h:LnR net s (G3++mt m) r):((Gz (bh net) m).r=0/\r.2=tNo)\/(0<(Gz (bh net) m).r/\r.2=mt (Gz (bh net) m)/\mvB (Gz (bh net) m)=true):=by
 unfold LnR at h;rw[Ia] at h;have hc:ei [114,117,110]=some (1,fun ms=>ic (ms.getD 0 Mx.z)):=by
  unfold ei;rw[if_neg (by decide),if_neg (by decide),if_neg (by decide),if_pos rfl]
 dsimp only at h
 rw[hc] at h
 dsimp only at h
 have hne:mt m≠[]:=by
  obtain⟨d,r,e,_⟩:=ET hm;rw[e];simp
 have hnf:¬uV 1 ([114,117,110],mt m,true):=by
  rintro(⟨h,_⟩|⟨_,h⟩)
  ·cases h
  ·exact hne h
 have hrd:RdM 1 (mt m) [m]:=⟨rfl,fun _=>by
  rw[Hh (Ik hm)];refine⟨rfl,fun i p x hp hx=>?_⟩
  cases i with
  | zero=>injection hp with hp;injection hx with hx;subst hp hx;exact⟨hm,rfl⟩
  | succ i=>simp at hp⟩
 rcases h with⟨h1,_⟩|⟨_,⟨ms,h1,rfl⟩|⟨h1,_⟩⟩
 ·exact absurd h1 hnf
 ·obtain rfl:=hrd.one h1;unfold Gz
  show (_/\((ic m net s).getD ((net,s),tNo)).2=tNo)\/_
  show _\/(_/\((ic m net s).getD ((net,s),tNo)).2=_/\_)
  unfold ic
  cases e:bE (bh net) (some (m.r,m.c)) with
  | none=>exact .inl ⟨rfl,rfl⟩
  | some rc =>
   right
   show 0<(runM (bh net) m).r/\mt (aq (fD net (cH m s)).1)=mt (runM (bh net) m)/\mvB (runM (bh net) m)=true
   have hv:=eN hs.1;have k:=Ih hv.2 hm e;refine⟨by have:=bI (aA k).1;omega,?_,k⟩
   clear k;obtain⟨h1,h2,h3,h4⟩:=jg hm hs.2;rw[eL hs.1] at e ⊢;have hj:=H8 (du hs.1).2 (z:=cH m s) (rc:=(m.r,m.c)) ⟨h1,h2,h3,h4⟩ e;rw[wg hm hs.2] at hj;rw[hj]
 ·exact absurd hrd (h1 _)
end Go.Proofs.YtjciicheoghcdaaGreatDoor
