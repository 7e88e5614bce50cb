/- 88 texts, one behind the other. -/
import Derived.Test.YtapnoejokajcoaaGreatDoorW6
import Derived.Shelf.Strings.Builder1
import Derived.Shelf.Strings.Builder2
import Derived.Shelf.Strings.OnBuilder
import Derived.Shelf.Small.Utf8
import Derived.Shelf.Small.Bits
import Derived.Shelf.Small.Strs
import Derived.Shelf.Strconv.Itoa0
import Derived.Shelf.Strings.Search1
import Derived.Shelf.Strings.Search2
import Derived.Shelf.Strings.Search3
import Derived.Shelf.Strings.Count
import Derived.Shelf.LaysM
import Derived.Shelf.Strings.Shaped
import Derived.Shelf.Sort.Plain
import Derived.Shelf.Strings.Split
import Derived.Shelf.Strings.Replace
import Derived.Shelf.Strings.Runes
import Derived.Shelf.Strings.IndexAny
import Derived.Shelf.Strings.AsciiSet
import Derived.Shelf.Strings.IndexAnyAll
import Derived.Shelf.Unicode.DecodeSlow
import Derived.Shelf.Unicode.DecodeAny
import Derived.Ground.Names2Prog
import Derived.Shelf.Slices.Clone
import Derived.Shelf.Slices.CompactI
import Derived.Shelf.Slices.Cells
import Derived.Shelf.Slices.In.SortNone
import Derived.Ground.SlgnProg
import Derived.Shelf.SlicesE.Clone
import Derived.Test.YtapnoejokajcoaaGreatDoorProg
import Derived.Test.YtapnoejokajcoaaGreatDoorW1
import Derived.Test.YtapnoejokajcoaaGreatDoorW3
import Derived.Lib.MapLaws
import Derived.Lib.ValidLaws
import Derived.Lib.Bytealg
import Derived.Laws.RangeString
import Derived.Laws.Runes
import Derived.WalkMore
import Derived.Deep.QuietTactic
import Derived.BigQuiet
import Derived.Laws.RangeAny
import Derived.Deep.LoopGhost
import Derived.Lib.Join
import Derived.Lib.Replace
import Derived.Lib.IndexBytes
set_option linter.defProp false
set_option linter.unusedVariables false
set_option linter.unusedSimpArgs false
set_option maxRecDepth 100000
noncomputable section
def d5z:=@List.take_of_length_le
def d6W:=@not_false
def d6i:=@Classical.byContradiction
def d6t:=@List.drop_of_length_le
def d7V:=@beq_iff_eq
def d7X:=@decide_eq_false_iff_not
def d8J:=@List.any_eq_false
def d8S:=@Nat.le_of_eq
def d8d:=@Prod.mk.inj
def d8j:=@List.length_filter_le
namespace Go.Proofs.YtapnoejokajcoaaGreatDoor
open Go Go.Wk Go.Wl Go.Rx Go.Re Go.Li Go.Qu 
attribute [local irreducible] j4
def d2j:Nat->D3:=fun|25=>⟨22,nn,nn⟩|_=>⟨0,nn,nn⟩
def b4N(t:Tm):=u9 (Dy.mk t.Day.Year t.Day.Month t.Day.Date)-1
def Vws(t:Tm)(Q:Int->Prop):Prop:=
(bR (¬p9 (Tm.mk (Dy.mk t.Day.Year t.Day.Month t.Day.Date) t.Hour t.Min t.D8 (decide (t.o7=true)) (decide (t.UTC=true)))=true) (Q (-1:Int)) (c6 (b4N t)/\c6 ((b4N t)*86400)/\c6 (t.Hour*3600)/\c6 ((b4N t)*86400+t.Hour*3600)/\c6 (t.Min*60)/\c6 ((b4N t)*86400+t.Hour*3600+t.Min*60)/\c6 ((b4N t)*86400+t.Hour*3600+t.Min*60+t.D8)/\Q ((b4N t)*86400+t.Hour*3600+t.Min*60+t.D8)))
def pws(t:Tm)  : Vws t (fun y0=>y0=b8 t):=by
 unfold Vws b4N b8;simp only[d4Z];refine⟨fun h=>by rw[if_neg (fun hr=>h (A8.2 hr))],fun h=>?_⟩;have hr:a1k t:=A8.1 (d4S.1 h);have hrg:=a2h hr;rw[if_pos hr];obtain⟨hd,hh,hm,hs,_⟩:=hr;obtain⟨n0,n1⟩:=a03 hd;have en:u9 (Dy.mk t.Day.Year t.Day.Month t.Day.Date)=M3 t.Day:=by
  show u9 t.Day=M3 t.Day
  unfold u9;rw[if_pos hd]
 rw[en];unfold Z6 at *;exact⟨⟨by omega,by omega⟩,⟨by omega,by omega⟩,⟨by omega,by omega⟩,⟨by omega,by omega⟩,⟨by omega,by omega⟩,⟨by omega,by omega⟩,⟨by omega,by omega⟩,rfl⟩
def Nws:Env:=Nwr.kL 25 (r26.c .n) (.int .i64) (fun _=>[]) (fun y=>b8 y.1)
def Nws_ok:c8 Nws:=Nwr_ok.kL Tryz.call25 Tryz.func25 (inlHN_ok Nwr_ok H0_ok d2j 2) (an:=d2j 25) (fun _ _=>trivial) fun y ho=>kc (pws y.1 ) (by kernel_rfl)
def d06:Nat->D3:=fun|90=>⟨46,nn,nn⟩|_=>⟨0,nn,nn⟩
def b4B(n:Int):=A7 (n.tdiv (86400:Int)+1)
def Vwa(n:Int)(t:Tm)(Q:Tm->Prop):Prop:=
((¬n<0/\t.o7=true)/\¬t.UTC=true->(86400:Int)≠0)/\(bR (n<0∨t.o7=true/\(t.UTC=true∨n.tmod (86400:Int)≠0)) (Q (Tm.mk (Dy.mk 0 0 0) 0 0 0 false false)) ((86400:Int)≠0/\c6 (n.tdiv 86400)/\c6 (n.tdiv (86400:Int)+1)/\(bR ((b4B n).Year=0/\(b4B n).Month=0/\(b4B n).Date=0/\True) (Q (Tm.mk (Dy.mk 0 0 0) 0 0 0 false false)) ((86400:Int)≠0/\(3600:Int)≠0/\c6 ((n.tmod 86400).tdiv 3600)/\(60:Int)≠0/\c6 ((n.tmod 86400).tdiv 60)/\(60:Int)≠0/\(60:Int)≠0/\Q (Tm.mk (Dy.mk (b4B n).Year (b4B n).Month (b4B n).Date) ((n.tmod 86400).tdiv 3600) (((n.tmod 86400).tdiv 60).tmod 60) ((n.tmod 86400).tmod 60) (decide (t.o7=true)) (decide (t.UTC=true)))))))
def pwa(n:Int)(t:Tm)(hn:n<=9000000000000000000):Vwa n t (fun y0=>y0=L4 n t):=by
 unfold Vwa b4B L4;simp only[d4Z];refine⟨fun _=>by decide,fun h=>?_,fun h=>?_⟩
 . by_cases h0:n<0
   . rw[if_pos (.inl h0)]
   . have e:n.tmod 86400=n%86400:=d5L (by omega);rw[e]at h;rw[if_pos (.inr (.inl (h.resolve_left h0)))]
 . have h0:¬n<0:=fun h'=>h (.inl h');have e1:n.tdiv 86400=n / 86400:=d5b (by omega);have e2:n.tmod 86400=n%86400:=d5L (by omega);have e3:(n%86400).tdiv 3600=n%86400 / 3600:=d5b (by omega);have e4:(n%86400).tdiv 60=n%86400 / 60:=d5b (by omega);have e5:(n%86400 / 60).tmod 60=n%86400 / 60%60:=d5L (by omega);have e6:(n%86400).tmod 60=n%86400%60:=d5L (by omega);rw[e2]at h;rw[e1,e2,e3,e4,e5,e6];by_cases hl:3652059<n / 86400+1
   . have eo:A7 (n / 86400+1)=⟨0,0,0⟩:=by unfold A7;rw[if_pos (.inr hl)]
     rw[if_pos (.inr (.inr hl)),eo];exact⟨by decide,⟨by omega,by omega⟩,⟨by omega,by omega⟩,fun _=>rfl,fun hh=>absurd ⟨rfl,rfl,rfl,trivial⟩ hh⟩
   . obtain⟨hr,_⟩:=of_ok (n:=n / 86400+1) (by omega) (by omega);obtain⟨y0,_⟩:=hr.ym
     rw [if_neg (by rintro (h' | h' | h')
                    . exact h0 h'
                    . exact h (.inr h')
                    . exact hl h')]
     exact⟨by decide,⟨by omega,by omega⟩,⟨by omega,by omega⟩,fun hz=>absurd hz.1 (by omega),fun _=>⟨by decide,by decide,⟨by omega,by omega⟩,by decide,⟨by omega,by omega⟩,by decide,by decide,rfl⟩⟩
def Nwa:Env:=Nws.kL 90 (rI.c (r26.c .n)) (.val 26) (fun y=>[y.1<=9000000000000000000]) (fun y=>L4 y.1 y.2.1)
def Nwa_ok:c8 Nwa:=Nws_ok.kL Tryz.call90 Tryz.func90 (inlHN_ok Nws_ok H0_ok d06 2) (an:=d06 90) (fun y ho=>⟨_,_,rfl,rfl,rfl⟩) fun y ho=>kc (pwa y.1 y.2.1 ho.1) (by kernel_rfl)
def d2U:Nat->D3:=fun|120=>⟨16,nn,nn⟩|_=>⟨0,nn,nn⟩
def Vry(y:Int)(Q:Int->Prop):Prop:=
(400:Int)≠0/\(¬y.tmod (400:Int)=0->(4:Int)≠0)/\(¬y.tmod (400:Int)=0/\y.tmod (4:Int)=0->(100:Int)≠0)/\(bR (y.tmod (400:Int)=0∨y.tmod (4:Int)=0/\y.tmod (100:Int)≠0) (Q 366) (Q 365))
def pry(y:Int)  : Vry y (fun y0=>y0=a3Q y):=by
 unfold Vry a3Q;refine⟨by decide,fun _=>by decide,fun _=>by decide,fun h=>?_,fun h=>?_⟩
 . rw[tm0,tm0,ne_eq,tm0]at h;rw[if_pos (by omega)]
 . rw[tm0,tm0,ne_eq,tm0]at h;rw[if_neg (by omega)]
def cry(a:List (SV U)):Option (Q1 U):=match a with|[.int .i64 y]=>some ⟨[],[],.int .i64 (a3Q y)⟩|_=>none
def Nry:Env:=Nwa.B3 120 cry
def Nry_ok:c8 Nry:=Nwa_ok.B3 Tryz.call120 fun(args:List (SV U)) (q:Q1 U) (h:cry args=some q) ho=>by
 unfold cry at h;split at h
 . rename_i y;cases h;exact I1 (an:=d2U 120) Nwa_ok (inlHN_ok Nwa_ok H0_ok d2U 2) Tryz.func120 (k:=.int .i64) (x:=a3Q y) trivial (kc (pry y ) (by kernel_rfl)) 0
 . cases h
def d1X:Nat->D3:=fun|72=>⟨31,nn,nn⟩|_=>⟨0,nn,nn⟩
def c6W(m:Int):=ix [(31:Int),(28:Int),(31:Int),(30:Int),(31:Int),(30:Int),(31:Int),(31:Int),(30:Int),(31:Int),(30:Int),(31:Int)] (m-1)
def Vrl(y:Int)(m:Int)(Q:Int->Prop):Prop:=
(bR (((y<1∨9999<y)∨m<1)∨12<m) (Q 0) ((bR (m=2) (c6 (a3Q y-337)/\Q (a3Q y-337)) (c6 (m-1)/\0<=m-1/\m-1<(↑[(31:Int),(28:Int),(31:Int),(30:Int),(31:Int),(30:Int),(31:Int),(31:Int),(30:Int),(31:Int),(30:Int),(31:Int)].length:Int)/\(c6 (c6W m)->Q (c6W m))))))
def prl(y:Int)(m:Int)  : Vrl y m (fun y0=>y0=E1 y m):=by
 unfold Vrl c6W;refine⟨fun h=>?_,fun h=>⟨fun h2=>?_,fun h2=>⟨⟨by omega,by omega⟩,by omega,by show m-1<12;omega,fun _=>?_⟩⟩⟩
 . unfold E1;by_cases hy:y<1∨9999<y
   . rw[if_pos hy]
   . rw[if_neg hy,if_neg (by omega),if_neg (by omega),if_neg (by omega)]
 . subst h2;unfold E1;rw[if_neg (show ¬(y<1∨9999<y) by omega),if_pos rfl];unfold a3Q;by_cases hl:y%4=0/\(y%100≠0∨y%400=0)
   . rw[if_pos hl,if_pos hl];exact⟨⟨by decide,by decide⟩,rfl⟩
   . rw[if_neg hl,if_neg hl];exact⟨⟨by decide,by decide⟩,rfl⟩
 . have hm:m=1∨m=3∨m=4∨m=5∨m=6∨m=7∨m=8∨m=9∨m=10∨m=11∨m=12:=by omega
   unfold E1;rw[if_neg (by omega)];rcases hm with rfl|rfl|rfl|rfl|rfl|rfl|rfl|rfl|rfl|rfl|rfl <;> rfl
def crl(a:List (SV U)):Option (Q1 U):=match a with|[.int .i64 y,.int .i64 m]=>some ⟨[],[],.int .i64 (E1 y m)⟩|_=>none
def Nrl:Env:=Nry.B3 72 crl
def Nrl_ok:c8 Nrl:=Nry_ok.B3 Tryz.call72 fun(args:List (SV U)) (q:Q1 U) (h:crl args=some q) ho=>by
 unfold crl at h;split at h
 . rename_i y m;cases h;exact I1 (an:=d1X 72) Nry_ok (inlHN_ok Nry_ok H0_ok d1X 2) Tryz.func72 (k:=.int .i64) (x:=E1 y m) trivial (kc (prl y m ) (by kernel_rfl)) 0
 . cases h
def c9N:Nat->D3:=fun|71=>⟨18,nn,nn⟩|_=>⟨0,nn,nn⟩
def Vra(y:Int)(Q:Int->Prop):Prop:=
c6 (y-1)/\c6 ((365:Int)*(y-1))/\c6 (y-1)/\(4:Int)≠0/\c6 ((y-1).tdiv 4)/\c6 ((365:Int)*(y-1)+(y-1).tdiv 4)/\c6 (y-1)/\(100:Int)≠0/\c6 ((y-1).tdiv 100)/\c6 ((365:Int)*(y-1)+(y-1).tdiv (4:Int)-(y-1).tdiv 100)/\c6 (y-1)/\(400:Int)≠0/\c6 ((y-1).tdiv 400)/\c6 ((365:Int)*(y-1)+(y-1).tdiv (4:Int)-(y-1).tdiv (100:Int)+(y-1).tdiv 400)/\Q ((365:Int)*(y-1)+(y-1).tdiv (4:Int)-(y-1).tdiv (100:Int)+(y-1).tdiv 400)
def pra(y:Int)(y0:1<=y)(y1:y<=100000):Vra y (fun y0=>y0=v7 y):=by
 unfold Vra v7;have e1:(y-1).tdiv 4=(y-1) / 4:=d5b (by omega);have e2:(y-1).tdiv 100=(y-1) / 100:=d5b (by omega);have e3:(y-1).tdiv 400=(y-1) / 400:=d5b (by omega);rw[e1,e2,e3]
 repeat' apply And.intro
 all_goals first|rfl|omega
def cra(a:List (SV U)):Option (Q1 U):=match a with|[.int .i64 y]=>some ⟨[1<=y,y<=100000],[],.int .i64 (v7 y)⟩|_=>none
def Nra:Env:=Nrl.B3 71 cra
def Nra_ok:c8 Nra:=Nrl_ok.B3 Tryz.call71 fun(args:List (SV U)) (q:Q1 U) (h:cra args=some q) ho=>by
 unfold cra at h;split at h
 . rename_i y;cases h;exact I1 (an:=c9N 71) Nrl_ok (inlHN_ok Nrl_ok H0_ok c9N 2) Tryz.func71 (k:=.int .i64) (x:=v7 y) trivial (kc (pra y ho.1 ho.2.1) (by kernel_rfl)) 0
 . cases h
def c8P:Nat->D3:=fun|44=>⟨16,nn,nn⟩|_=>⟨0,nn,nn⟩
def Vrr(d:Dy)(Q:Bool->Prop):Prop:=
Q (decide (1<=d.Date/\d.Date<=E1 d.Year d.Month))
def prr(d:Dy)  : Vrr d (fun y0=>y0=D6 d):=by unfold Vrr;rfl
def d4C(d:Dy):Q1 U:=⟨[],[],I4 (D6 d)⟩
def crr(a:List (SV U)):Option (Q1 U):=match a with|[.agg [.int .i64 d0,.int .i64 d1,.int .i64 d2]]=>some (d4C (⟨d0,d1,d2⟩))|_=>none
def Nrr:Env:=Nra.B3 44 crr
def Nrr_ok:c8 Nrr:=Nra_ok.B3 Tryz.call44 fun(args:List (SV U)) (q:Q1 U) (h:crr args=some q) ho=>by
 unfold crr at h;split at h
 . rename_i d0 d1 d2;cases h;exact I1 (an:=c8P 44) Nra_ok (inlHN_ok Nra_ok H0_ok c8P 2) Tryz.func44 (k:=.bool) (x:=D6 (⟨d0,d1,d2⟩:Dy)) trivial (kc (prr (⟨d0,d1,d2⟩) ) (by kernel_rfl)) 0
 . cases h
def d1W:Nat->D3:=fun|34=>⟨27,fun|5=>some ⟨[1],[.slot 3 (.int .i64),.slot 4 (.int .i64)]⟩|_=>none,nn⟩|_=>⟨0,nn,nn⟩
def Vrn(d:Dy)(Q:Int->Prop):Prop:=
(bR (¬D6 (Dy.mk d.Year d.Month d.Date)=true) (Q 0) ((1<=d.Year/\d.Year<=100000)/\c6 (v7 d.Year+d.Date)/\∃(I:Int->Int->Prop),∃(m:Int->Int->Nat),I (v7 d.Year+d.Date) 1/\∀(x x_1:Int),I x x_1->(bR (x_1<d.Month) (c6 (x+E1 d.Year x_1)/\c6 (x_1+1)/\I (x+E1 d.Year x_1) (x_1+1)/\m (x+E1 d.Year x_1) (x_1+1)<m x x_1) (Q x))))
def prn(d:Dy)  : Vrn d (fun y0=>y0=u9 d):=by
 unfold Vrn;have ed:(Dy.mk d.Year d.Month d.Date)=d:=rfl;rw[ed];refine⟨fun h=>by unfold u9;rw[if_neg (fun hr=>h (I2.2 hr))],fun h=>?_⟩;have hr:G8 d:=I2.1 (d4S.1 h);obtain⟨y0,y1,m0,m1,d0,d1⟩:=hr.ym;obtain⟨a0,a1⟩:=R4 (y:=d.Year) (by omega) (by omega);refine⟨⟨y0,by omega⟩,⟨by omega,by omega⟩,fun x k=>1<=k/\k<=d.Month/\x=v7 d.Year+d.Date+T7 d.Year k,fun _ k=>(13-k).toNat,⟨d5o 1,m0,by rw[d1V];omega⟩,?_⟩;rintro x k ⟨k0,k1,hx⟩;refine⟨fun hk=>?_,fun hk=>?_⟩
 . have hc:=b7L (y:=d.Year) k0 (by omega) y0 y1 (by omega);obtain⟨c0,c1⟩:=b3X d.Year k;obtain⟨c2,c3⟩:=b3X d.Year (k+1);exact⟨⟨by omega,by omega⟩,⟨by omega,by omega⟩,⟨by omega,by omega,by omega⟩,by dsimp only;omega⟩
 . have e:k=d.Month:=by omega
   subst e;unfold u9 M3;rw[if_pos hr];omega
def d3T(d:Dy):Q1 U:=⟨[],[],.int .i64 (u9 d)⟩
def crn(a:List (SV U)):Option (Q1 U):=match a with|[.agg [.int .i64 d0,.int .i64 d1,.int .i64 d2]]=>some (d3T (⟨d0,d1,d2⟩))|_=>none
def Nrn:Env:=Nrr.B3 34 crn
def Nrn_ok:c8 Nrn:=Nrr_ok.B3 Tryz.call34 fun(args:List (SV U)) (q:Q1 U) (h:crn args=some q) ho=>by
 unfold crn at h;split at h
 . rename_i d0 d1 d2;cases h;exact I1 (an:=d1W 34) Nrr_ok (inlHN_ok Nrr_ok H0_ok d1W 2) Tryz.func34 (k:=.int .i64) (x:=u9 (⟨d0,d1,d2⟩:Dy)) trivial (kc (prn (⟨d0,d1,d2⟩) ) (by kernel_rfl)) 0
 . cases h
def d1Z:Env:=Nrn.z7 43 Tryz.f43
def NI43_ok:c8 d1Z:=Nrn_ok.z7 Tryz.call43 Tryz.func43
def d2E:Nat->D3:=fun|15=>⟨50,nn,nn⟩|43=>⟨12,nn,nn⟩|_=>⟨0,nn,nn⟩
def Vtr(t:Tm)(Q:Bool->Prop):Prop:=
(bR (0<=t.Hour/\t.Hour<=23) ((bR (0<=t.Min/\t.Min<=59) (Q (decide ((D6 (Dy.mk t.Day.Year t.Day.Month t.Day.Date)=true/\0<=t.D8/\t.D8<=59)/\(¬t.o7=true∨((t.Hour=0/\t.Min=0)/\t.D8=0)/\¬t.UTC=true)))) (Q (decide ((D6 (Dy.mk t.Day.Year t.Day.Month t.Day.Date)=true/\False)/\(¬t.o7=true∨((t.Hour=0/\t.Min=0)/\t.D8=0)/\¬t.UTC=true)))))) (Q (decide ((D6 (Dy.mk t.Day.Year t.Day.Month t.Day.Date)=true/\False)/\(¬t.o7=true∨((t.Hour=0/\t.Min=0)/\t.D8=0)/\¬t.UTC=true)))))
def ptr(t:Tm)  : Vtr t (fun y0=>y0=p9 t):=by
 unfold Vtr;have e:(Dy.mk t.Day.Year t.Day.Month t.Day.Date)=t.Day:=rfl;rw[e];have hb:(¬t.o7=true∨((t.Hour=0/\t.Min=0)/\t.D8=0)/\¬t.UTC=true)↔¬(t.o7=true/\(((t.Hour≠0∨t.Min≠0)∨t.D8≠0)∨t.UTC=true)):=by by_cases b1:t.o7=true <;> by_cases b2:t.UTC=true <;> simp[b1,b2] <;> omega
 refine⟨fun hh=>⟨fun hm=>d5N.2 ?_,fun hm=>d5N.2 ?_⟩,fun hh=>d5N.2 ?_⟩
 . rw[hb,I2];exact⟨fun h=>⟨h.1.1,hh,hm,h.1.2,h.2⟩,fun h=>⟨⟨h.1,h.2.2.2.1⟩,h.2.2.2.2⟩⟩
 . exact⟨fun h=>h.1.2.elim,fun h=>absurd h.2.2.1 hm⟩
 . exact⟨fun h=>h.1.2.elim,fun h=>absurd h.2.1 hh⟩
def Ntr:Env:=d1Z.kL 15 (r26.c .n) (.bool) (fun _=>[]) (fun y=>p9 y.1)
def Ntr_ok:c8 Ntr:=NI43_ok.kL Tryz.call15 Tryz.func15 (inlHN_ok NI43_ok H0_ok d2E 2) (an:=d2E 15) (fun _ _=>trivial) fun y ho=>kc (ptr y.1 ) (by kernel_rfl)
def d1m:Nat->D3:=fun|11=>⟨22,nn,nn⟩|_=>⟨0,nn,nn⟩
def b3O(t:Tm):=u9 (Dy.mk t.Day.Year t.Day.Month t.Day.Date)-1
def Vts(t:Tm)(Q:Int->Prop):Prop:=
(bR (¬p9 (Tm.mk (Dy.mk t.Day.Year t.Day.Month t.Day.Date) t.Hour t.Min t.D8 (decide (t.o7=true)) (decide (t.UTC=true)))=true) (Q (-1:Int)) (c6 (b3O t)/\c6 ((86400:Int)*(b3O t))/\c6 ((3600:Int)*t.Hour)/\c6 ((86400:Int)*(b3O t)+3600*t.Hour)/\c6 ((60:Int)*t.Min)/\c6 ((86400:Int)*(b3O t)+3600*t.Hour+60*t.Min)/\c6 ((86400:Int)*(b3O t)+3600*t.Hour+60*t.Min+t.D8)/\Q ((86400:Int)*(b3O t)+3600*t.Hour+60*t.Min+t.D8)))
def pts(t:Tm)  : Vts t (fun y0=>y0=b8 t):=by
 unfold Vts b3O b8;simp only[d4Z];refine⟨fun h=>by rw[if_neg (fun hr=>h (A8.2 hr))],fun h=>?_⟩;have hr:a1k t:=A8.1 (d4S.1 h);have hrg:=a2h hr;rw[if_pos hr];obtain⟨hd,hh,hm,hs,_⟩:=hr;obtain⟨n0,n1⟩:=a03 hd;have en:u9 (Dy.mk t.Day.Year t.Day.Month t.Day.Date)=M3 t.Day:=by
  show u9 t.Day=M3 t.Day
  unfold u9;rw[if_pos hd]
 rw[en];unfold Z6 at *;exact⟨⟨by omega,by omega⟩,⟨by omega,by omega⟩,⟨by omega,by omega⟩,⟨by omega,by omega⟩,⟨by omega,by omega⟩,⟨by omega,by omega⟩,⟨by omega,by omega⟩,by omega⟩
def Nts:Env:=Ntr.kL 11 (r26.c .n) (.int .i64) (fun _=>[]) (fun y=>b8 y.1)
def Nts_ok:c8 Nts:=Ntr_ok.kL Tryz.call11 Tryz.func11 (inlHN_ok Ntr_ok H0_ok d1m 2) (an:=d1m 11) (fun _ _=>trivial) fun y ho=>kc (pts y.1 ) (by kernel_rfl)
def d1R:Nat->D3:=fun|50=>⟨44,fun|2=>some ⟨[35,36],[.slot 37 (.int .i64)]⟩|_=>none,nn⟩|_=>⟨0,nn,nn⟩
def Vqf(r:Rl)(Q:Bool->Prop):Prop:=
∃(I:Int->Prop),∃(m:Int->Nat),I 0/\∀(x:Int),I x->(bR (x<(↑[(↑r.Month.length:Int),(↑r.q7.length:Int),(↑r.l9.length:Int),(↑r.j9.length:Int),(↑r.w9.length:Int),(↑r.Hour.length:Int),(↑r.Minute.length:Int),(↑r.Second.length:Int),(↑r.y6.length:Int),(↑r.e9.length:Int)].length:Int)) (0<=x/\x<(↑[(↑r.Month.length:Int),(↑r.q7.length:Int),(↑r.l9.length:Int),(↑r.j9.length:Int),(↑r.w9.length:Int),(↑r.Hour.length:Int),(↑r.Minute.length:Int),(↑r.Second.length:Int),(↑r.y6.length:Int),(↑r.e9.length:Int)].length:Int)/\(c6 (ix [(↑r.Month.length:Int),(↑r.q7.length:Int),(↑r.l9.length:Int),(↑r.j9.length:Int),(↑r.w9.length:Int),(↑r.Hour.length:Int),(↑r.Minute.length:Int),(↑r.Second.length:Int),(↑r.y6.length:Int),(↑r.e9.length:Int)] x)->(bR (60<ix [(↑r.Month.length:Int),(↑r.q7.length:Int),(↑r.l9.length:Int),(↑r.j9.length:Int),(↑r.w9.length:Int),(↑r.Hour.length:Int),(↑r.Minute.length:Int),(↑r.Second.length:Int),(↑r.y6.length:Int),(↑r.e9.length:Int)] x) (Q false) (c6 (x+1)/\I (x+1)/\m (x+1)<m x)))) (Q true))
def pqf(r:Rl)  : Vqf r (fun y0=>y0=F9 r):=by
 unfold Vqf F9;generalize hL:([(r.Month.length:Int),r.q7.length,r.l9.length,r.j9.length,r.w9.length,r.Hour.length,r.Minute.length,r.Second.length,r.y6.length,r.e9.length]:List Int)=L;have hl:L.length=10:=by rw[<- hL];rfl
 refine⟨fun x=>0<=x/\∀j:Int,0<=j->j<x->ix L j<=60,fun x=>((L.length:Int)-x).toNat,⟨d5o 0,fun j a b=>by omega⟩,?_⟩;rintro x ⟨x0,hx⟩;refine⟨fun h=>⟨x0,h,fun hi=>⟨fun h60=>(c2w x0 h h60).symm,fun h60=>⟨⟨by omega,by omega⟩,⟨by omega,fun j a b=>?_⟩,by dsimp only;omega⟩⟩⟩,fun h=>(b9u fun j a b=>hx j a (by omega)).symm⟩;by_cases e:j=x
 . subst e;omega
 . exact hx j a (by omega)
def Nqf:Env:=Nts.kL 50 (r64.c .n) (.bool) (fun _=>[]) (fun y=>F9 y.1)
def Nqf_ok:c8 Nqf:=Nts_ok.kL Tryz.call50 Tryz.func50 (inlHN_ok Nts_ok H0_ok d1R 2) (an:=d1R 50) (fun _ _=>trivial) fun y ho=>kc (pqf y.1 ) (by kernel_rfl)
end Go.Proofs.YtapnoejokajcoaaGreatDoor
namespace Go.Proofs
open Go.Shelf
def Tryz.lays156_ren:Go.Shelf.Ren:=⟨fun|156=>160|165=>182|166=>183|169=>184|240=>202|241=>203|276=>217|277=>218|n=>n,fun|31=>128|9=>9|3=>3|4=>4|0=>0|20=>20|72=>257|76=>198|70=>255|37=>226|75=>43|127=>273|164=>153|5=>5|80=>260|n=>n,fun|n=>n⟩
def Tryz.lays156:Go.Proofs.Lays.n156 Tryz.prog Tryz.lays156_ren:={
 mixed:=by kernel_rfl
 f156:=Tryz.func160.trans (congrArg some (by kernel_rfl))
 f165:=Tryz.func182.trans (congrArg some (by kernel_rfl))
 f166:=Tryz.func183.trans (congrArg some (by kernel_rfl))
 f169:=Tryz.func184.trans (congrArg some (by kernel_rfl))
 f240:=Tryz.func202.trans (congrArg some (by kernel_rfl))
 f241:=Tryz.func203.trans (congrArg some (by kernel_rfl))
 f276:=Tryz.func217.trans (congrArg some (by kernel_rfl))
 f277:=Tryz.func218.trans (congrArg some (by kernel_rfl))
 t0:=Tryz.underlying0
 a0:=Tryz.isAgg0
 z0:=Tryz.sizeOf0
 v0:=Tryz.zeroValue0
 t3:=Tryz.underlying3
 a3:=Tryz.isAgg3
 z3:=Tryz.sizeOf3
 v3:=Tryz.zeroValue3
 t4:=Tryz.underlying4
 a4:=Tryz.isAgg4
 z4:=Tryz.sizeOf4
 v4:=Tryz.zeroValue4
 t9:=Tryz.underlying9
 a9:=Tryz.isAgg9
 z9:=Tryz.sizeOf9
 v9:=Tryz.zeroValue9
 t20:=Tryz.underlying20
 a20:=Tryz.isAgg20
 z20:=Tryz.sizeOf20
 v20:=Tryz.zeroValue20
 t31:=Tryz.underlying128
 a31:=Tryz.isAgg128
 z31:=Tryz.sizeOf128
 v31:=Tryz.zeroValue128
 t37:=Tryz.underlying226
 a37:=Tryz.isAgg226
 z37:=Tryz.sizeOf226
 v37:=Tryz.zeroValue226
 t70:=Tryz.underlying255
 a70:=Tryz.isAgg255
 z70:=Tryz.sizeOf255
 v70:=Tryz.zeroValue255
 t72:=Tryz.underlying257
 a72:=Tryz.isAgg257
 z72:=Tryz.sizeOf257
 v72:=Tryz.zeroValue257
 t75:=Tryz.underlying43
 a75:=Tryz.isAgg43
 z75:=Tryz.sizeOf43
 v75:=Tryz.zeroValue43
 t76:=Tryz.underlying198
 a76:=Tryz.isAgg198
 z76:=Tryz.sizeOf198
 v76:=Tryz.zeroValue198
 t127:=Tryz.underlying273
 a127:=Tryz.isAgg273
 z127:=Tryz.sizeOf273
 v127:=Tryz.zeroValue273
 t164:=Tryz.underlying153
 a164:=Tryz.isAgg153
 z164:=Tryz.sizeOf153
 v164:=Tryz.zeroValue153 }
def Tryz.Builder_Extra_156:Builder.Extra Tryz.prog Tryz.lays156_ren:={
 sizeBuilder:=by kernel_rfl
 liesBuilder:=by kernel_rfl
 t5:=Tryz.underlying5
 a5:=Tryz.isAgg5
 z5:=Tryz.sizeOf5
 v5:=Tryz.zeroValue5
 infoByte:=by kernel_rfl
 cellsByte:=by kernel_rfl
 sizeByte:=by kernel_rfl
 neB5:=by decide }
open Go.RowKit in
def Tryz.strings_Join_none(a:Option Addr)(c:Nat)(sep:ByteArray)(w:World) :
  Calls Tryz.prog 160 #[.slice a 0 c,.string sep] w fun e w'=>e=.returned (.string ⟨#[]⟩)/\w'=w:=Any.strings_Join_none Tryz.lays156 Tryz.Builder_Extra_156 a c sep w
open Go.RowKit in
def Tryz.strings_Join(bk o c:Nat)(xs:List ByteArray)(sep:ByteArray)(w:World)(hcells:∀(j:Nat) x,xs[j]?=some x->w.cell? ⟨bk,o+j,none⟩=some (.string x))(hbk:bk<w.heap.size)(hN:xs.length<=140737488355328)(hcap:xs.length<=c)(hlen:(Lib.join (xs.map (·.data.toList)) sep.data.toList).length<=140737488355328) :
  Calls Tryz.prog 160 #[.slice (some ⟨bk,o,none⟩) xs.length c,.string sep] w fun e w'=>e=.returned (.string ⟨(Lib.join (xs.map (·.data.toList)) sep.data.toList).toArray⟩)/\Below w.heap.size w w':=Any.strings_Join Tryz.lays156 Tryz.Builder_Extra_156 bk o c xs sep w hcells hbk hN hcap hlen
def Tryz.lays119_ren:Go.Shelf.Ren:=⟨fun|119=>234|n=>n,fun|21=>21|4=>4|n=>n,fun|n=>n⟩
def Tryz.lays119:Go.Proofs.Lays.n119 Tryz.prog Tryz.lays119_ren:={
 mixed:=by kernel_rfl
 f119:=Tryz.func234.trans (congrArg some (by kernel_rfl))
 t4:=Tryz.underlying4
 a4:=Tryz.isAgg4
 z4:=Tryz.sizeOf4
 v4:=Tryz.zeroValue4
 t21:=Tryz.underlying21
 a21:=Tryz.isAgg21
 z21:=Tryz.sizeOf21
 v21:=Tryz.zeroValue21 }
def Tryz.utf8_ValidRune(r:Int)(w:World) :
  Calls Tryz.prog 234 #[.int .i32 r] w fun e w'=>e=.returned (.bool (Lib.validRune r))/\w'=w:=Any.utf8_ValidRune Tryz.lays119 r w
def Tryz.lays137_ren:Go.Shelf.Ren:=⟨fun|137=>233|217=>240|266=>243|n=>n,fun|9=>9|5=>5|3=>3|n=>n,fun|n=>n⟩
def Tryz.lays137:Go.Proofs.Lays.n137 Tryz.prog Tryz.lays137_ren:={
 mixed:=by kernel_rfl
 f137:=Tryz.func233.trans (congrArg some (by kernel_rfl))
 f217:=Tryz.func240.trans (congrArg some (by kernel_rfl))
 f266:=Tryz.func243.trans (congrArg some (by kernel_rfl))
 t3:=Tryz.underlying3
 a3:=Tryz.isAgg3
 z3:=Tryz.sizeOf3
 v3:=Tryz.zeroValue3
 t5:=Tryz.underlying5
 a5:=Tryz.isAgg5
 z5:=Tryz.sizeOf5
 v5:=Tryz.zeroValue5
 t9:=Tryz.underlying9
 a9:=Tryz.isAgg9
 z9:=Tryz.sizeOf9
 v9:=Tryz.zeroValue9 }
open Go.RowKit in
def Tryz.strings_IndexByte(s:ByteArray)(c:Int)(w:World) :
  Calls Tryz.prog 233 #[.string s,.int .u8 c] w fun e w'=>e=.returned (.int .i64 (Lib.indexByte s.data.toList c.toNat.toUInt8))/\w'=w:=Any.strings_IndexByte Tryz.lays137 s c w
def Tryz.lays189_ren:Go.Shelf.Ren:=⟨fun|189=>186|125=>67|257=>204|128=>118|129=>119|294=>219|295=>220|296=>221|297=>222|298=>223|299=>224|216=>225|300=>226|301=>227|328=>237|329=>154|330=>155|331=>238|332=>239|215=>68|343=>242|n=>n,fun|28=>30|3=>3|46=>120|0=>0|51=>173|53=>175|4=>4|183=>166|182=>165|131=>170|5=>5|9=>9|218=>220|222=>224|228=>250|229=>251|n=>n,fun|n=>n⟩
def Tryz.lays189:Go.Proofs.Lays.n189 Tryz.prog Tryz.lays189_ren:={
 mixed:=by kernel_rfl
 f125:=Tryz.func67.trans (congrArg some (by kernel_rfl))
 f128:=Tryz.func118.trans (congrArg some (by kernel_rfl))
 f129:=Tryz.func119.trans (congrArg some (by kernel_rfl))
 f189:=Tryz.func186.trans (congrArg some (by kernel_rfl))
 f215:=Tryz.func68.trans (congrArg some (by kernel_rfl))
 f216:=Tryz.func225.trans (congrArg some (by kernel_rfl))
 f257:=Tryz.func204.trans (congrArg some (by kernel_rfl))
 f294:=Tryz.func219.trans (congrArg some (by kernel_rfl))
 f295:=Tryz.func220.trans (congrArg some (by kernel_rfl))
 f296:=Tryz.func221.trans (congrArg some (by kernel_rfl))
 f297:=Tryz.func222.trans (congrArg some (by kernel_rfl))
 f298:=Tryz.func223.trans (congrArg some (by kernel_rfl))
 f299:=Tryz.func224.trans (congrArg some (by kernel_rfl))
 f300:=Tryz.func226.trans (congrArg some (by kernel_rfl))
 f301:=Tryz.func227.trans (congrArg some (by kernel_rfl))
 f328:=Tryz.func237.trans (congrArg some (by kernel_rfl))
 f329:=Tryz.func154.trans (congrArg some (by kernel_rfl))
 f330:=Tryz.func155.trans (congrArg some (by kernel_rfl))
 f331:=Tryz.func238.trans (congrArg some (by kernel_rfl))
 f332:=Tryz.func239.trans (congrArg some (by kernel_rfl))
 f343:=Tryz.func242.trans (congrArg some (by kernel_rfl))
 t0:=Tryz.underlying0
 a0:=Tryz.isAgg0
 z0:=Tryz.sizeOf0
 v0:=Tryz.zeroValue0
 t3:=Tryz.underlying3
 a3:=Tryz.isAgg3
 z3:=Tryz.sizeOf3
 v3:=Tryz.zeroValue3
 t4:=Tryz.underlying4
 a4:=Tryz.isAgg4
 z4:=Tryz.sizeOf4
 v4:=Tryz.zeroValue4
 t5:=Tryz.underlying5
 a5:=Tryz.isAgg5
 z5:=Tryz.sizeOf5
 v5:=Tryz.zeroValue5
 t9:=Tryz.underlying9
 a9:=Tryz.isAgg9
 z9:=Tryz.sizeOf9
 v9:=Tryz.zeroValue9
 t28:=Tryz.underlying30
 a28:=Tryz.isAgg30
 z28:=Tryz.sizeOf30
 v28:=Tryz.zeroValue30
 t46:=Tryz.underlying120
 a46:=Tryz.isAgg120
 z46:=Tryz.sizeOf120
 v46:=Tryz.zeroValue120
 t51:=Tryz.underlying173
 a51:=Tryz.isAgg173
 z51:=Tryz.sizeOf173
 v51:=Tryz.zeroValue173
 t53:=Tryz.underlying175
 a53:=Tryz.isAgg175
 z53:=Tryz.sizeOf175
 v53:=Tryz.zeroValue175
 t131:=Tryz.underlying170
 a131:=Tryz.isAgg170
 z131:=Tryz.sizeOf170
 v131:=Tryz.zeroValue170
 t182:=Tryz.underlying165
 a182:=Tryz.isAgg165
 z182:=Tryz.sizeOf165
 v182:=Tryz.zeroValue165
 t183:=Tryz.underlying166
 a183:=Tryz.isAgg166
 z183:=Tryz.sizeOf166
 v183:=Tryz.zeroValue166
 t218:=Tryz.underlying220
 a218:=Tryz.isAgg220
 z218:=Tryz.sizeOf220
 v218:=Tryz.zeroValue220
 t222:=Tryz.underlying224
 a222:=Tryz.isAgg224
 z222:=Tryz.sizeOf224
 v222:=Tryz.zeroValue224
 t228:=Tryz.underlying250
 a228:=Tryz.isAgg250
 z228:=Tryz.sizeOf250
 v228:=Tryz.zeroValue250
 t229:=Tryz.underlying251
 a229:=Tryz.isAgg251
 z229:=Tryz.sizeOf251
 v229:=Tryz.zeroValue251 }
open Go.Sort Go.RowKit in
def Tryz.slices_Sort_int(blk off cap:Nat)(zs:List Int)(w:World)(hH:Holds (Value.int .i64) w blk off zs.toArray)(hblk:blk<w.heap.size)(hsz:zs.length<4611686018427387904) :
  Calls Tryz.prog 186 #[.slice (some ⟨blk,off,none⟩) zs.length cap] w fun e w' =>
   e=.returned (.tuple #[])/\∃n os,w'=grow (putRow (Value.int .i64) (Sort.ahead w n) blk off (zs.mergeSort fun x y=>decide (x<=y)).toArray) os:=Any.slices_Sort_int Tryz.lays189 blk off cap zs w hH hblk hsz
def Tryz.lays154_ren:Go.Shelf.Ren:=⟨fun|154=>200|138=>210|165=>182|143=>211|166=>183|197=>212|169=>184|195=>229|218=>230|240=>202|241=>203|219=>231|260=>232|276=>217|277=>218|217=>240|225=>236|224=>235|267=>241|266=>243|314=>244|n=>n,fun|9=>9|3=>3|4=>4|72=>257|0=>0|76=>198|105=>278|21=>21|5=>5|70=>255|20=>20|37=>226|75=>43|127=>273|164=>153|46=>120|119=>298|139=>301|138=>300|146=>303|51=>173|80=>260|n=>n,fun|1=>1|3=>2|4=>3|n=>n⟩
def Tryz.lays155_ren:Go.Shelf.Ren:=⟨fun|155=>180|154=>200|138=>210|165=>182|143=>211|166=>183|197=>212|169=>184|195=>229|218=>230|240=>202|241=>203|219=>231|260=>232|276=>217|277=>218|217=>240|225=>236|224=>235|267=>241|266=>243|314=>244|n=>n,fun|9=>9|3=>3|4=>4|72=>257|0=>0|76=>198|105=>278|21=>21|5=>5|70=>255|20=>20|37=>226|75=>43|127=>273|164=>153|46=>120|119=>298|139=>301|138=>300|146=>303|51=>173|80=>260|n=>n,fun|1=>1|3=>2|4=>3|n=>n⟩
def Tryz.lays155:Go.Proofs.Lays.n155 Tryz.prog Tryz.lays155_ren:={
 mixed:=by kernel_rfl
 f138:=Tryz.func210.trans (congrArg some (by kernel_rfl))
 f143:=Tryz.func211.trans (congrArg some (by kernel_rfl))
 f154:=Tryz.func200.trans (congrArg some (by kernel_rfl))
 f155:=Tryz.func180.trans (congrArg some (by kernel_rfl))
 f165:=Tryz.func182.trans (congrArg some (by kernel_rfl))
 f166:=Tryz.func183.trans (congrArg some (by kernel_rfl))
 f169:=Tryz.func184.trans (congrArg some (by kernel_rfl))
 f195:=Tryz.func229.trans (congrArg some (by kernel_rfl))
 f197:=Tryz.func212.trans (congrArg some (by kernel_rfl))
 f217:=Tryz.func240.trans (congrArg some (by kernel_rfl))
 f218:=Tryz.func230.trans (congrArg some (by kernel_rfl))
 f219:=Tryz.func231.trans (congrArg some (by kernel_rfl))
 f224:=Tryz.func235.trans (congrArg some (by kernel_rfl))
 f225:=Tryz.func236.trans (congrArg some (by kernel_rfl))
 f240:=Tryz.func202.trans (congrArg some (by kernel_rfl))
 f241:=Tryz.func203.trans (congrArg some (by kernel_rfl))
 f260:=Tryz.func232.trans (congrArg some (by kernel_rfl))
 f266:=Tryz.func243.trans (congrArg some (by kernel_rfl))
 f267:=Tryz.func241.trans (congrArg some (by kernel_rfl))
 f276:=Tryz.func217.trans (congrArg some (by kernel_rfl))
 f277:=Tryz.func218.trans (congrArg some (by kernel_rfl))
 f314:=Tryz.func244.trans (congrArg some (by kernel_rfl))
 t0:=Tryz.underlying0
 a0:=Tryz.isAgg0
 z0:=Tryz.sizeOf0
 v0:=Tryz.zeroValue0
 t3:=Tryz.underlying3
 a3:=Tryz.isAgg3
 z3:=Tryz.sizeOf3
 v3:=Tryz.zeroValue3
 t4:=Tryz.underlying4
 a4:=Tryz.isAgg4
 z4:=Tryz.sizeOf4
 v4:=Tryz.zeroValue4
 t5:=Tryz.underlying5
 a5:=Tryz.isAgg5
 z5:=Tryz.sizeOf5
 v5:=Tryz.zeroValue5
 t9:=Tryz.underlying9
 a9:=Tryz.isAgg9
 z9:=Tryz.sizeOf9
 v9:=Tryz.zeroValue9
 t20:=Tryz.underlying20
 a20:=Tryz.isAgg20
 z20:=Tryz.sizeOf20
 v20:=Tryz.zeroValue20
 t21:=Tryz.underlying21
 a21:=Tryz.isAgg21
 z21:=Tryz.sizeOf21
 v21:=Tryz.zeroValue21
 t37:=Tryz.underlying226
 a37:=Tryz.isAgg226
 z37:=Tryz.sizeOf226
 v37:=Tryz.zeroValue226
 t46:=Tryz.underlying120
 a46:=Tryz.isAgg120
 z46:=Tryz.sizeOf120
 v46:=Tryz.zeroValue120
 t51:=Tryz.underlying173
 a51:=Tryz.isAgg173
 z51:=Tryz.sizeOf173
 v51:=Tryz.zeroValue173
 t70:=Tryz.underlying255
 a70:=Tryz.isAgg255
 z70:=Tryz.sizeOf255
 v70:=Tryz.zeroValue255
 t72:=Tryz.underlying257
 a72:=Tryz.isAgg257
 z72:=Tryz.sizeOf257
 v72:=Tryz.zeroValue257
 t75:=Tryz.underlying43
 a75:=Tryz.isAgg43
 z75:=Tryz.sizeOf43
 v75:=Tryz.zeroValue43
 t76:=Tryz.underlying198
 a76:=Tryz.isAgg198
 z76:=Tryz.sizeOf198
 v76:=Tryz.zeroValue198
 t105:=Tryz.underlying278
 a105:=Tryz.isAgg278
 z105:=Tryz.sizeOf278
 v105:=Tryz.zeroValue278
 t119:=Tryz.underlying298
 a119:=Tryz.isAgg298
 z119:=Tryz.sizeOf298
 t127:=Tryz.underlying273
 a127:=Tryz.isAgg273
 z127:=Tryz.sizeOf273
 v127:=Tryz.zeroValue273
 t138:=Tryz.underlying300
 a138:=Tryz.isAgg300
 z138:=Tryz.sizeOf300
 v138:=Tryz.zeroValue300
 t139:=Tryz.underlying301
 a139:=Tryz.isAgg301
 z139:=Tryz.sizeOf301
 v139:=Tryz.zeroValue301
 t146:=Tryz.underlying303
 a146:=Tryz.isAgg303
 z146:=Tryz.sizeOf303
 v146:=Tryz.zeroValue303
 t164:=Tryz.underlying153
 a164:=Tryz.isAgg153
 z164:=Tryz.sizeOf153
 v164:=Tryz.zeroValue153
 g1:=by kernel_rfl
 g3:=by kernel_rfl
 g4:=by kernel_rfl }
def Tryz.Builder_Extra_155:Builder.Extra Tryz.prog Tryz.lays155_ren:={
 sizeBuilder:=by kernel_rfl
 liesBuilder:=by kernel_rfl
 t5:=Tryz.underlying5
 a5:=Tryz.isAgg5
 z5:=Tryz.sizeOf5
 v5:=Tryz.zeroValue5
 infoByte:=by kernel_rfl
 cellsByte:=by kernel_rfl
 sizeByte:=by kernel_rfl
 neB5:=by decide }
open Go.RowKit Go.Lib in
def Tryz.strings_ReplaceAll(s old new:ByteArray)(m:Int)(w:World)(hs:s.size<4294967281)(hm:w.cell? ⟨1,0,none⟩=some (.int .i64 m))(h1:1<=old.size)(hlen:s.size+Lib.countB s old*new.size<=140737488355328) :
  Calls Tryz.prog 180 #[.string s,.string old,.string new] w fun e w' =>
   e=.returned (.string ⟨(Lib.replaceAll s.data.toList old.data.toList new.data.toList).toArray⟩)/\Below w.heap.size w w':=Any.strings_ReplaceAll Tryz.lays155 Tryz.Builder_Extra_155 s old new m w hs hm h1 hlen
def Tryz.lays152_ren:Go.Shelf.Ren:=⟨fun|152=>213|137=>233|119=>234|224=>235|225=>236|217=>240|266=>243|n=>n,fun|9=>9|21=>21|3=>3|4=>4|5=>5|0=>0|46=>120|n=>n,fun|n=>n⟩
def Tryz.lays152:Go.Proofs.Lays.n152 Tryz.prog Tryz.lays152_ren:={
 mixed:=by kernel_rfl
 f119:=Tryz.func234.trans (congrArg some (by kernel_rfl))
 f137:=Tryz.func233.trans (congrArg some (by kernel_rfl))
 f152:=Tryz.func213.trans (congrArg some (by kernel_rfl))
 f217:=Tryz.func240.trans (congrArg some (by kernel_rfl))
 f224:=Tryz.func235.trans (congrArg some (by kernel_rfl))
 f225:=Tryz.func236.trans (congrArg some (by kernel_rfl))
 f266:=Tryz.func243.trans (congrArg some (by kernel_rfl))
 t0:=Tryz.underlying0
 a0:=Tryz.isAgg0
 z0:=Tryz.sizeOf0
 v0:=Tryz.zeroValue0
 t3:=Tryz.underlying3
 a3:=Tryz.isAgg3
 z3:=Tryz.sizeOf3
 v3:=Tryz.zeroValue3
 t4:=Tryz.underlying4
 a4:=Tryz.isAgg4
 z4:=Tryz.sizeOf4
 v4:=Tryz.zeroValue4
 t5:=Tryz.underlying5
 a5:=Tryz.isAgg5
 z5:=Tryz.sizeOf5
 v5:=Tryz.zeroValue5
 t9:=Tryz.underlying9
 a9:=Tryz.isAgg9
 z9:=Tryz.sizeOf9
 v9:=Tryz.zeroValue9
 t21:=Tryz.underlying21
 a21:=Tryz.isAgg21
 z21:=Tryz.sizeOf21
 v21:=Tryz.zeroValue21
 t46:=Tryz.underlying120
 a46:=Tryz.isAgg120
 z46:=Tryz.sizeOf120
 v46:=Tryz.zeroValue120 }
open Go.RowKit Go.Lib in
def Tryz.strings_IndexRune_ascii(s:ByteArray)(r:Int)(w:World)(h0:0<=r)(h1:r<128) :
  Calls Tryz.prog 213 #[.string s,.int .i32 r] w fun e w'=>e=.returned (.int .i64 (Lib.indexByte s.data.toList r.toNat.toUInt8))/\w'=w:=Any.strings_IndexRune_ascii Tryz.lays152 s r w h0 h1
def Tryz.lays226_ren:Go.Shelf.Ren:=⟨fun|226=>214|n=>n,fun|3=>3|4=>4|n=>n,fun|n=>n⟩
def Tryz.lays226:Go.Proofs.Lays.n226 Tryz.prog Tryz.lays226_ren:={
 mixed:=by kernel_rfl
 f226:=Tryz.func214.trans (congrArg some (by kernel_rfl))
 t3:=Tryz.underlying3
 a3:=Tryz.isAgg3
 z3:=Tryz.sizeOf3
 v3:=Tryz.zeroValue3
 t4:=Tryz.underlying4
 a4:=Tryz.isAgg4
 z4:=Tryz.sizeOf4
 v4:=Tryz.zeroValue4 }
open Go.RowKit Go.Lib in
def Tryz.strings_shouldUseASCIISet(n:Int)(w:World) :
  Calls Tryz.prog 214 #[.int .i64 n] w fun e w'=>e=.returned (.bool (decide (8<n)))/\w'=w:=Any.strings_shouldUseASCIISet Tryz.lays226 n w
def Tryz.lays153_ren:Go.Shelf.Ren:=⟨fun|153=>201|152=>213|226=>214|227=>215|228=>216|137=>233|119=>234|224=>235|225=>236|217=>240|266=>243|n=>n,fun|9=>9|3=>3|4=>4|5=>5|21=>21|117=>283|116=>282|0=>0|46=>120|124=>295|n=>n,fun|n=>n⟩
def Tryz.lays153:Go.Proofs.Lays.n153 Tryz.prog Tryz.lays153_ren:={
 mixed:=by kernel_rfl
 f119:=Tryz.func234.trans (congrArg some (by kernel_rfl))
 f137:=Tryz.func233.trans (congrArg some (by kernel_rfl))
 f152:=Tryz.func213.trans (congrArg some (by kernel_rfl))
 f153:=Tryz.func201.trans (congrArg some (by kernel_rfl))
 f217:=Tryz.func240.trans (congrArg some (by kernel_rfl))
 f224:=Tryz.func235.trans (congrArg some (by kernel_rfl))
 f225:=Tryz.func236.trans (congrArg some (by kernel_rfl))
 f226:=Tryz.func214.trans (congrArg some (by kernel_rfl))
 f227:=Tryz.func215.trans (congrArg some (by kernel_rfl))
 f228:=Tryz.func216.trans (congrArg some (by kernel_rfl))
 f266:=Tryz.func243.trans (congrArg some (by kernel_rfl))
 t0:=Tryz.underlying0
 a0:=Tryz.isAgg0
 z0:=Tryz.sizeOf0
 v0:=Tryz.zeroValue0
 t3:=Tryz.underlying3
 a3:=Tryz.isAgg3
 z3:=Tryz.sizeOf3
 v3:=Tryz.zeroValue3
 t4:=Tryz.underlying4
 a4:=Tryz.isAgg4
 z4:=Tryz.sizeOf4
 v4:=Tryz.zeroValue4
 t5:=Tryz.underlying5
 a5:=Tryz.isAgg5
 z5:=Tryz.sizeOf5
 v5:=Tryz.zeroValue5
 t9:=Tryz.underlying9
 a9:=Tryz.isAgg9
 z9:=Tryz.sizeOf9
 v9:=Tryz.zeroValue9
 t21:=Tryz.underlying21
 a21:=Tryz.isAgg21
 z21:=Tryz.sizeOf21
 v21:=Tryz.zeroValue21
 t46:=Tryz.underlying120
 a46:=Tryz.isAgg120
 z46:=Tryz.sizeOf120
 v46:=Tryz.zeroValue120
 t116:=Tryz.underlying282
 a116:=Tryz.isAgg282
 z116:=Tryz.sizeOf282
 t117:=Tryz.underlying283
 a117:=Tryz.isAgg283
 z117:=Tryz.sizeOf283
 v117:=Tryz.zeroValue283
 t124:=Tryz.underlying295
 a124:=Tryz.isAgg295
 z124:=Tryz.sizeOf295
 v124:=Tryz.zeroValue295 }
open Go.RowKit Go.Lib in
def Tryz.strings_IndexAny_long(hv116:∀w,(zeroValue 282).run Tryz.prog w=.ok (.agg (Array.replicate 256 (.bool false))) w)(s chars:ByteArray)(w:World)(h2:2<=chars.size)(h8:8<s.size)(hs:s.size<4294967281)(hcs:chars.size<4294967281)(hascii:∀(j:Nat) b,chars.data.toList[j]?=some b->b.toNat<128) :
  Calls Tryz.prog 201 #[.string s,.string chars] w fun e w'=>e=.returned (.int .i64 (Lib.indexAny s.data.toList chars.data.toList))/\w'=((w.alloc (.cells (Lib.setCells chars.data.toList) 282)).alloc (.cells (Lib.setCells chars.data.toList) 282)):=Any.strings_IndexAny_long Tryz.lays153 hv116 (by kernel_rfl) s chars w h2 h8 hs hcs hascii
def Tryz.laysNm215_ren:Go.Shelf.Ren:=⟨fun|15=>185|n=>n,fun|22=>30|3=>3|4=>4|n=>n,fun|n=>n⟩
def Tryz.laysNm215:Go.Proofs.Lays2.n15 Tryz.prog Tryz.laysNm215_ren:={
 mixed:=by kernel_rfl
 f15:=Tryz.func185.trans (congrArg some (by kernel_rfl))
 t3:=Tryz.underlying3
 a3:=Tryz.isAgg3
 z3:=Tryz.sizeOf3
 v3:=Tryz.zeroValue3
 t4:=Tryz.underlying4
 a4:=Tryz.isAgg4
 z4:=Tryz.sizeOf4
 v4:=Tryz.zeroValue4
 t22:=Tryz.underlying30
 a22:=Tryz.isAgg30
 z22:=Tryz.sizeOf30
 v22:=Tryz.zeroValue30
 i3:=by kernel_rfl }
open Go.RowKit Go.Lib in
def Tryz.slices_Clone_int(b off n c:Nat)(zs:List Int)(w:World)(hz:n<=zs.length)(hbig:n*8<=140737488355328)(hc:∀j,j<zs.length->w.cell? ⟨b,off+j,none⟩=some (.int .i64 (zs.getD j 0))) :
  Calls Tryz.prog 185 #[.slice (some ⟨b,off,none⟩) n c] w fun e w'=>∃v',e=.returned v'/\w'.ownsRow w.heap.size 3 1 v' n ((zs.take n).map (Value.int .i64))/\v'≠.slice none 0 0/\Below w.heap.size w w':=Any.slices_Clone_int Tryz.laysNm215 b off n c zs w hz hbig hc
open Go.RowKit Go.Lib in
def Tryz.slices_Clone_int_nil(n c:Nat)(w:World) :
  Calls Tryz.prog 185 #[.slice none n c] w fun e w'=>e=.returned (.slice none 0 0)/\w'=w:=Any.slices_Clone_int_nil Tryz.laysNm215 n c w
open Go.RowKit Go.Lib in
def Tryz.slices_Clone_int_zero(a:Addr)(c:Nat)(w:World) :
  Calls Tryz.prog 185 #[.slice (some a) 0 c] w fun e w'=>∃v',e=.returned v'/\w'.ownsRow w.heap.size 3 1 v' 0 []/\v'≠.slice none 0 0/\Below w.heap.size w w':=Any.slices_Clone_int_zero Tryz.laysNm215 a c w
def Tryz.laysNm220_ren:Go.Shelf.Ren:=⟨fun|20=>187|n=>n,fun|22=>30|3=>3|4=>4|0=>0|n=>n,fun|n=>n⟩
def Tryz.laysNm220:Go.Proofs.Lays2.n20 Tryz.prog Tryz.laysNm220_ren:={
 mixed:=by kernel_rfl
 f20:=Tryz.func187.trans (congrArg some (by kernel_rfl))
 t0:=Tryz.underlying0
 a0:=Tryz.isAgg0
 z0:=Tryz.sizeOf0
 v0:=Tryz.zeroValue0
 t3:=Tryz.underlying3
 a3:=Tryz.isAgg3
 z3:=Tryz.sizeOf3
 v3:=Tryz.zeroValue3
 t4:=Tryz.underlying4
 a4:=Tryz.isAgg4
 z4:=Tryz.sizeOf4
 v4:=Tryz.zeroValue4
 t22:=Tryz.underlying30
 a22:=Tryz.isAgg30
 z22:=Tryz.sizeOf30
 v22:=Tryz.zeroValue30
 i3:=by kernel_rfl }
open Go.RowKit Go.Lib Go.Sort in
def Tryz.slices_Compact_int(blk off cap:Nat)(zs:List Int)(w:World)(hH:Holds (Value.int .i64) w blk off zs.toArray)(hsz:zs.length<=9223372036854775807)(hcap:zs.length<=cap) :
  Calls Tryz.prog 187 #[.slice (some ⟨blk,off,none⟩) zs.length cap] w fun e w'=>e=.returned (.slice (some ⟨blk,off,none⟩) (Lib.compact zs).length cap)/\∃q,w'=putRow (Value.int .i64) (Sort.ahead w q) blk off (Lib.compact zs++List.replicate (zs.length-(Lib.compact zs).length) 0).toArray:=Any.slices_Compact_int Tryz.laysNm220 blk off cap zs w hH hsz hcap
open Go.RowKit Go.Lib Go.Sort in
def Tryz.slices_Compact_int_empty(a:Option Addr)(cap:Nat)(w:World) :
  Calls Tryz.prog 187 #[.slice a 0 cap] w fun e w'=>e=.returned (.slice a 0 cap)/\w'=w:=Any.slices_Compact_int_empty Tryz.laysNm220 a cap w
open Go.RowKit Go.Sort in
def Tryz.slices_Sort_int_none(p:Option Addr)(cap:Nat)(w:World) :
  Calls Tryz.prog 186 #[.slice p 0 cap] w fun e w'=>e=.returned (.tuple #[])/\w'=w:=Any.slices_Sort_int_none Tryz.lays189 p cap w
end Go.Proofs
namespace Go.Proofs.YtapnoejokajcoaaGreatDoor
open Go Go.Wk Go.Wl Go.Rx Go.Re Go.Li Go.Qu Go.Proofs Go.RowKit
def a2K{w w1 w':World}(hs:F8 w w1)(h:RowKit.Below w1.heap.size w1 w'):Ext [] w w':=by obtain⟨k,rfl⟩:=hs;exact⟨h.os,h.tape,h.output,h.size,fun b hb _=>h.block b hb⟩
def c0U{Z:Nat->Prop}{w w2:World}{v':Value}{n:Nat}{xs:List Value}{l:List Int}(hl:l.length=n)(hl63:∀s∈l,InI s)(hx:xs=l.map (Value.int .i64))(ho:w2.ownsRow w.heap.size 3 1 v' n xs):∃bs,(∀b∈bs,w.heap.size<=b)/\Ac E8 Z w2 v' l bs:=by
 subst hx;rcases ho.2 with⟨hv,hn⟩|⟨g,cap',cur,hv,hbg,hg,hn,hcm,hcs,hct⟩
 . exact⟨[],fun _ h=>(by cases h),.inl ⟨hv,d6s (by omega),rfl⟩⟩
 . refine⟨[g],fun b hb=>by rw[d5a.1 hb];exact hbg,.inr ⟨g,cap',cur.toList,3,by rw[hl];exact hv,rfl,⟨(0,0),.inl rfl,hg⟩,by rw[d7r];exact hcs,by omega,fun i hi=>?_⟩⟩;refine⟨[.int .i64 l[i]],rfl,fun j hj=>?_,⟨rfl,hl63 _ (d6j _)⟩⟩;have hj0:j=0:=by have hj:j<1:=hj;omega
   subst hj0;have e3:i*E8.sz+0=i:=by show i*1+0=i;omega
   rw[e3];have:=congrArg (fun x=>x[i]?) hct;rw[d8w,List.getElem?_take_of_lt (by omega),d6F,d5i hi]at this;simpa using this
def b7J(l:List Int)(D Z:Nat->Prop)(w w1:World)(hs:F8 w w1)(v:Value)(hv:(p7 E8).rd D w [v] l)(h1:l.length<=1000000) :
  Calls Tryz.prog 185 #[v] w1 fun e w2=>∃v' bs,e=.returned v'/\Ext [] w w2/\(∀b∈bs,w.heap.size<=b)/\Ac E8 Z w2 v' l bs:=by
 have hsz:w1.heap.size=w.heap.size:=by obtain⟨k,rfl⟩:=hs;rfl
 obtain⟨hl63,A,cap,e,⟨_,hcap⟩,hc⟩:=hv;simp only[d6Z,and_true]at e;subst e;by_cases h0:l.length=0
 . have hl:=d6s h0;rw[h0];cases A with
   |none=>exact d6d (Tryz.slices_Clone_int_nil 0 cap w1) fun e w2 ⟨he,hw⟩=>⟨_,[],he,by subst hw;exact a4i hs (Ext.refl _ _),fun _ h=>(by cases h),.inl ⟨rfl,hl,rfl⟩⟩
   |some a =>
    refine d6d (Tryz.slices_Clone_int_zero a cap w1) fun e w2 ⟨v',he,ho,_,hbl⟩=>?_;rw[hsz]at ho;obtain⟨bs,hb,hac⟩:=c0U (Z:=Z) (l:=l) h0 (fun s hs=>by rw[hl]at hs;cases hs) (by rw[hl];rfl) ho;exact⟨v',bs,he,a2K hs hbl,hb,hac⟩
 obtain⟨b,o,c,eA,hb,hcell,hrd⟩:=hc 0 (by omega);subst eA;have hcells:∀(j:Nat),j<l.length->w1.cell? ⟨b,o+j,none⟩=some (.int .i64 (l.getD j 0)):=fun j hj=>by
  rw[F8.cell hs,d5Z,d5i hj];obtain⟨b',o',c',eA',_,hcell',hrd'⟩:=hc j hj;simp only[d4T,Addr.mk.injEq]at eA';obtain⟨rfl,rfl,-⟩:=eA';have hc1:=hrd'.1;subst hc1;obtain⟨C,T,z,hh,hC⟩:=hcell';have:=hC 0 (by simp);have e1:o+j*E8.sz+0=o+j:=by show o+j*1+0=o+j;omega
  rw[e1]at this;unfold World.cell?;simp only[hh];simpa using this
 refine d6d (Tryz.slices_Clone_int b o l.length cap l w1 (d5m _) (by omega) hcells) fun e w2 ⟨v',he,ho,hne,hbl⟩=>?_;rw[hsz]at ho;obtain⟨bs,hb',hac⟩:=c0U (Z:=Z) (l:=l) rfl (fun s hs=>by obtain⟨i,hi,rfl⟩:=d5w hs;obtain⟨_,_,_,_,_,_,h⟩:=hc i hi;exact h.2) (by rw[d5z (d5m _)]) ho
 exact⟨v',bs,he,a2K hs hbl,hb',hac⟩
def c7J{K nx:Nat}{args:List (SV U)}{l:List Int}{ob:List Prop}(hl:l.length<=1000000)
  (h:∀(ρ:p4)(Z:Nat->Prop)(w:World)(vs:List Value),e7 U eT ρ Z w (.tuple vs.toArray) (.F5 args)->∀w1,F8 w w1->Calls Tryz.prog K vs.toArray w1 fun e w2=>∃v' bs,e=.returned v'/\Ext [] w w2/\(∀b∈bs,w.heap.size<=b)/\Ac E8 Z w2 v' l bs) :
  P8 Tryz.prog U eT Gl K args nx ⟨ob,[],.acc nx,[.ac (N:=U) 3 l]⟩:=⟨fun ρ Z w vs hfr hz _ ha w1 hs=>by
 refine d6d (h ρ Z w vs ha w1 hs) fun e w2 ⟨v',bs,he,hx,hb,hac⟩=>?_;obtain⟨A,cap,rfl⟩:∃A cap,v'=.slice A l.length cap:=by
  rcases hac with⟨e1,e2,_⟩|⟨b,cap,C,T,e1,_⟩
  . subst e1;subst e2;exact⟨_,_,rfl⟩
  . exact⟨_,_,e1⟩
 have hsub:=F6 (L:=⟨0,A,l.length,cap,bs⟩) (hfr nx (d5m _));refine⟨_,w2,he,F8.refl _,I6 ρ nx ⟨0,A,l.length,cap,bs⟩,Z,hsub,fun i hi=>by have hi:nx+1<=i:=hi;unfold I6;rw[if_neg (by omega)];exact hfr i (by omega),fun _ h=>h,fun _ h=>.inl h,.acc j8,?_,trivial⟩;refine(Sep.nil hz).add hx ⟨_,j8,rfl,(show l.length<=9223372036854775807 by omega),hac⟩ u5 (fun b hb'=>?_) rfl;have hb':b∈u4 U (I6 ρ nx ⟨0,A,l.length,cap,bs⟩) nx (.ac (N:=U) 3 l):=hb';have hb':b∈bs:=Eq.mp (congrArg (b∈·) (x7 (N:=U) (id:=nx) (t:=3) (l:=(l:List (U.U 3))) (j8 (ρ:=ρ) (id:=nx)))) hb';exact⟨hb b hb',hac.lt b hb'⟩⟩
def cCl(a:List (SV U))(nx:Nat):Option (CR U):=match a with|[.sl 3 l]=>some ⟨[List.length (α:=Int) l<=1000000],[],.acc nx,[.ac (N:=U) 3 l]⟩|_=>none
def cCl_ok(args:List (SV U))(nx:Nat)(c:CR U)(h:cCl args nx=some c)(hpu:args.all F7=true)(ho:q9 c.ob):P8 Tryz.prog U eT Gl 185 args nx c:=by
 unfold cCl at h;split at h
 . rename_i l;cases h;exact c7J ho.1 fun ρ Z w vs ha w1 hs=>by obtain⟨v1,r1,rfl,hv1,ha⟩:=e7.w4 ha;obtain rfl:=V0 ha;cases hv1 with|sl hv=>exact b7J l Z Z w w1 hs v1 hv ho.1
 . cases h
def c3x{K:Nat}{l l':List Int}(hn:l'.length=l.length)(h:∀(Z:Nat->Prop)(w:World)(v:Value)(bs:List Nat),Ac E8 Z w v l bs->G2 Tryz.prog K [v] w fun _ w'=>Ac E8 Z w' v l' bs/\Ext bs w w') :
  M6 Tryz.prog U eT Gl K [.acc 0] [(0,.ac (N:=U) 3 l)] 2 (fun k=>True->k .un [(0,.ac (N:=U) 3 l')] 2):=by
 intro kk hk ρ Z w vs B hfr hsep hg ha;have ok:=hsep.ok 0 (C9 U eT ρ B 0 (.ac (N:=U) 3 l)) rfl;obtain⟨L,hL,hLn,hlen,hac⟩:=ok.holds;have hF:(C9 U eT ρ B 0 (.ac (N:=U) 3 l)).F=L.bs:=by show u4 U ρ 0 (.ac (N:=U) 3 l)=_;exact x7 hL
 obtain⟨v1,vr,hvs,hv1,hvr⟩:=e7.w4 ha;obtain rfl:=V0 hvr;have hv1':v1=.slice L.A L.n L.cap:=by cases hv1 with|acc hL'=>rw[hL]at hL';cases hL';rfl
 subst hv1';rw[hvs];refine(h Z w _ L.bs hac).mono fun v w' ⟨hac',x1⟩=>?_;have hs1:=Wl.Sep.D5 hsep 0 (t:=C9 U eT ρ B 0 (.ac (N:=U) 3 l)) (t':=C9 U eT ρ B 0 (.ac (N:=U) 3 l')) rfl (by rw[hF];exact x1) ⟨L,hL,by rw[hLn];exact hn.symm,(show l'.length<=_ by rw[hn];exact hlen),hac'⟩ u5 (fun b hb=>by have hb:b∈u4 U ρ 0 (.ac (N:=U) 3 l'):=hb;have hb:b∈L.bs:=Eq.mp (congrArg (b∈·) (x7 (N:=U) (id:=0) (t:=3) (l:=(l':List (U.U 3))) hL)) hb;exact⟨by rw[hF];exact .inl hb,hac'.lt b hb⟩) rfl
 exact⟨ρ,Z,.un,[(0,.ac (N:=U) 3 l')],2,hs1,hfr,fun _ _ h=>h,fun _ h=>h,fun _ h=>.inl h,.un,hk trivial⟩
def c4x{K:Nat}{l l':List Int}(hn:l'.length<=9223372036854775807)(h:∀(Z:Nat->Prop)(w:World)(v:Value)(bs:List Nat),Ac E8 Z w v l bs->G2 Tryz.prog K [v] w fun v' w'=>Ac E8 Z w' v' l' bs/\Ext bs w w') :
  M6 Tryz.prog U eT Gl K [.acc 0] [(0,.ac (N:=U) 3 l)] 2 (fun k=>True->k (.acc 2) [(2,.ac (N:=U) 3 l')] 3):=by
 intro kk hk ρ Z w vs B hfr hsep hg ha;have ok:=hsep.ok 0 (C9 U eT ρ B 0 (.ac (N:=U) 3 l)) rfl;obtain⟨L,hL,hLn,hlen,hac⟩:=ok.holds;have hF:(C9 U eT ρ B 0 (.ac (N:=U) 3 l)).F=L.bs:=by show u4 U ρ 0 (.ac (N:=U) 3 l)=_;exact x7 hL
 obtain⟨v1,vr,hvs,hv1,hvr⟩:=e7.w4 ha;obtain rfl:=V0 hvr;have hv1':v1=.slice L.A L.n L.cap:=by cases hv1 with|acc hL'=>rw[hL]at hL';cases hL';rfl
 subst hv1';rw[hvs];refine(h Z w _ L.bs hac).mono fun v w' ⟨hac',x1⟩=>?_;obtain⟨A,cap,rfl⟩:∃A cap,v=.slice A l'.length cap:=by
  rcases hac' with⟨e1,e2,_⟩|⟨b,cap,C,T,e1,_⟩
  . subst e1;subst e2;exact⟨_,_,rfl⟩
  . exact⟨_,_,e1⟩
 have hρ:=F6 (L:=⟨0,A,l'.length,cap,L.bs⟩) (hfr 2 (d5m _));have hs1:=Wl.Sep.D5 hsep 0 (t:=C9 U eT ρ B 0 (.ac (N:=U) 3 l)) (t':=C9 U eT (I6 ρ 2 ⟨0,A,l'.length,cap,L.bs⟩) B 2 (.ac (N:=U) 3 l')) rfl (by rw[hF];exact x1) ⟨_,j8,rfl,hn,hac'⟩ u5 (fun b hb=>by have hb:b∈u4 U (I6 ρ 2 ⟨0,A,l'.length,cap,L.bs⟩) 2 (.ac (N:=U) 3 l'):=hb;have hb:b∈L.bs:=Eq.mp (congrArg (b∈·) (x7 (N:=U) (id:=2) (t:=3) (l:=(l':List (U.U 3))) (j8 (ρ:=ρ) (id:=2)))) hb;exact⟨by rw[hF];exact .inl hb,hac'.lt b hb⟩) rfl
 exact⟨I6 ρ 2 ⟨0,A,l'.length,cap,L.bs⟩,Z,.acc 2,[(2,.ac (N:=U) 3 l')],3,hs1,fun i hi=>by unfold I6;rw[if_neg (by omega)];exact hfr i (by omega),hρ,fun _ h=>h,fun _ h=>.inl h,.acc j8,hk trivial⟩
def fSo:FC U:=⟨[],[],fun a its=>match a,its with
 |[.acc 0],[(0,.ac 3 l)]=>some ⟨[List.length (α:=Int) l<=1000000],[],.un,[(0,.ac (N:=U) 3 (srt l))],2⟩
 |_,_=>none⟩
def fSo_ok(args:List (SV U))(its:c7 U)(r:FR U)(h:fSo.C args its=some r)(ho:q9 r.ob):M6 Tryz.prog U eT Gl 186 args its (2*its.length) (fun k=>q9 r.hy->k r.v r.its r.n):=by
 unfold fSo at h;simp only at h;split at h
 . rename_i l;cases h;have ho1:List.length (α:=Int) l<=1000000:=ho.1;exact c3x (a2M l) fun Z w v bs hac=>c4i Tryz.slices_Sort_int_none Tryz.slices_Sort_int hac (by omega)
 . cases h
def a5C(l:List Int):(Lib.compact l).length<=l.length:=by
 unfold Lib.compact Lib.compactUpTo;rw[d6h];have:=d8j (Lib.keeps l.toArray) (List.range l.length)
 rwa [List.length_range]at this
def b2R{l:List Int}{x:Int}(h:x∈Lib.compact l):x∈l:=by
 unfold Lib.compact Lib.compactUpTo at h;obtain⟨j,hj,rfl⟩:=d6A.1 h;have hj:=d7z.1 (d5u.1 hj).1;have e:l.toArray[j]! = l[j]:=by simp[hj]
 rw[e];exact d6j hj
def b4b{Z:Nat->Prop}{bs:List Nat}{w:World}{v:Value}{l:List Int}(h:Ac E8 Z w v l bs)(hl:l.length<=1000000) :
  G2 Tryz.prog 187 [v] w fun v' w'=>Ac E8 Z w' v' (Lib.compact l) bs/\Ext bs w w':=by
 intro w1 hs;obtain⟨k,rfl⟩:=hs;rcases h with⟨rfl,rfl,rfl⟩|⟨b,cap,C,T,rfl,rfl,ho,hC,hle,hc⟩
 . refine d6d (Tryz.slices_Compact_int_empty none 0 _) ?_;rintro e w2 ⟨rfl,rfl⟩;exact⟨_,w,rfl,⟨k,rfl⟩,.inl ⟨rfl,rfl,rfl⟩,Ext.refl _ _⟩
 . obtain⟨z,hz,ho⟩:=ho;have hsz:C.length=cap:=by simpa[E8]using hC
   have hget:∀i (h:i<l.length),C[i]?=some (.int .i64 l[i])/\InI l[i]:=by intro i hi;obtain⟨c,h1,h2,h3⟩:=hc i hi;have:=h2 0 (by simp[E8]);simp only[E8,d8w,d6r]at this h3;rw[this,h3.1];exact⟨rfl,h3.2⟩
   refine d6d (Tryz.slices_Compact_int b 0 cap l { w with drawn:=k } (fun j hj=>?_) (by omega) hle) ?_
   . have hj':j<l.length:=by simpa using hj
     constructor
     . simp only[World.cell?,show({ w with drawn:=k }:World).heap[b]?=_ from ho];simp[(hget j hj').1,hj']
     . rcases hz with rfl|hz
       . simp[World.frozen?,show({ w with drawn:=k }:World).heap[b]?=_ from ho]
       . simp[World.frozen?,show({ w with drawn:=k }:World).heap[b]?=_ from ho];omega
   . rintro e w2 ⟨rfl,n,rfl⟩;have hcl:=a5C l;have hmem:∀x∈Lib.compact l,x∈l:=fun x=>b2R;generalize Lib.compact l=cl at hcl hmem;obtain⟨fl,hfl⟩:∃fl,fl=(cl++List.replicate (l.length-cl.length) 0).toArray:=⟨_,rfl⟩;rw[<- hfl];have hfs:fl.size=l.length:=by rw[hfl];simp;omega
     have hfi:∀i (h:i<cl.length) (h':i<fl.size),fl[i]=cl[i]:=by intro i h h';subst hfl;simp[h]
     clear hfl;have hh:(Sort.putRow (Value.int .i64) (Sort.ahead w n) b 0 fl).heap[b]?=some (.cells (Sort.putCells (Value.int .i64) 0 fl C.toArray) T z):=by simp only[Sort.putRow,Sort.mapBlock,Sort.ahead,d6n,if_true];rw[show w.heap[b]?=_ from ho];rfl
     have ho':V2 (Sort.putRow (Value.int .i64) (Sort.ahead w n) b 0 fl) b T (Sort.putCells (Value.int .i64) 0 fl C.toArray).toList:=by refine⟨z,?_,by rw[hh]⟩;simpa[Sort.putCells]using hz
     refine⟨_,Sort.putRow (Value.int .i64) (Sort.ahead w n) b 0 fl,rfl,⟨k+n,rfl⟩,.inr ⟨b,cap,_,T,rfl,rfl,ho',?_,by omega,?_⟩,⟨rfl,rfl,rfl,?_,?_⟩⟩
     . simp[Sort.putCells,E8,hsz]
     . intro i hi;refine⟨[.int .i64 cl[i]],rfl,fun j hj=>?_,rfl,?_⟩
       . have:j=0:=by simp[E8]at hj;omega
         subst this;have hci:i<C.length:=by omega
         have hil:i<fl.size:=by omega
         simp[Sort.putCells,E8,d8h,hci,hil,hfi i hi hil]
       . obtain⟨j,hj,e⟩:=d5w (hmem _ (d6j hi));rw[<- e];exact(hget j hj).2
     . simp[Sort.ahead,Sort.putRow,Sort.mapBlock]
     . intro x hx hn;have hne:x≠b:=by simpa using hn
       simp only[Sort.putRow,Sort.mapBlock,Sort.ahead,d6n];rw[if_neg (d6l hne)]
def fCo:FC U:=⟨[],[],fun a its=>match a,its with
 |[.acc 0],[(0,.ac 3 l)]=>some ⟨[List.length (α:=Int) l<=1000000],[],.acc 2,[(2,.ac (N:=U) 3 (Lib.compact (α:=Int) l))],3⟩
 |_,_=>none⟩
def fCo_ok(args:List (SV U))(its:c7 U)(r:FR U)(h:fCo.C args its=some r)(ho:q9 r.ob):M6 Tryz.prog U eT Gl 187 args its (2*its.length) (fun k=>q9 r.hy->k r.v r.its r.n):=by
 unfold fCo at h;simp only at h;split at h
 . rename_i l;cases h;have ho1:List.length (α:=Int) l<=1000000:=ho.1;exact c4x (by have:=a5C l;omega) fun Z w v bs hac=>b4b hac ho1
 . cases h
def N2:Env:=(((Nqf.a0K 185 cCl).a1N 186 fSo).a1N 187 fCo)
def N2_ok:c8 N2:=((Nqf_ok.a0K Tryz.call185 cCl_ok).a1N Tryz.call186 fSo_ok).a1N Tryz.call187 fCo_ok
attribute [local irreducible] j4
def c9D:Nat->D3:=fun|163=>⟨9,nn,nn⟩|_=>⟨0,nn,nn⟩
def VgS(l:List Int)(Q:List Int->Prop):Prop:=
l.length<=1000000/\l.length<=1000000/\(srt l).length<=1000000/\Q (Lib.compact (srt l))
def pgS(l:List Int)(h0:l.length<=1000000):VgS l (fun y0=>y0=O1 l):=by unfold VgS;exact⟨h0,h0,by rw[a2M];exact h0,rfl⟩
def NgS:Env:=N2.kC 163 ((rL 3).c .n) (.acc 3) (fun y=>[List.length (α:=Int) y.1<=1000000]) (fun y=>O1 y.1)
def NgS_ok:c8 NgS:=N2_ok.kC Tryz.call163 Tryz.func163 (inlHN_ok N2_ok H0_ok c9D 2) (an:=c9D 163) fun y ho=>kc (pgS y.1 ho.1) (by kernel_rfl)
def d0o:Nat->D3:=fun|162=>⟨26,fun|4=>some ⟨[0,1,12],[.slot 13 (.int .i64)]⟩|_=>none,nn⟩|_=>⟨0,nn,nn⟩
def Veq(a:List Int)(b:List Int)(Q:Bool->Prop):Prop:=
(bR ((↑a.length:Int)≠(↑b.length:Int)) (Q false) (∃(I:Int->Prop),∃(m:Int->Nat),I 0/\∀(x:Int),I x->(bR (x<(↑a.length:Int)) (0<=x/\x<(↑a.length:Int)/\(c6 (ix a x)->0<=x/\x<(↑b.length:Int)/\(c6 (ix b x)->(bR (ix a x≠ix b x) (Q false) (c6 (x+1)/\I (x+1)/\m (x+1)<m x))))) (Q true))))
def peq(a:List Int)(b:List Int)(ha:a.length<=1000000):Veq a b (fun y0=>y0=Q9 a b):=by
 unfold Veq Q9;refine⟨fun h=>(d5q (p:=(a:List Int)=b) fun e=>h (by rw[e])).symm,fun h=>?_⟩;have hl:a.length=b.length:=by omega
 refine⟨fun i=>0<=i/\∀j:Int,0<=j->j<i->ix a j=ix b j,fun i=>((a.length:Int)-i).toNat,⟨by omega,fun j h0 h1=>absurd h1 (by omega)⟩,?_⟩;rintro i ⟨i0,hi⟩;refine⟨fun h1=>⟨i0,h1,fun _=>⟨i0,by omega,fun _=>⟨fun hn=>(d5q (p:=(a:List Int)=b) fun e=>hn (by rw[e])).symm,fun he=>⟨⟨by omega,by omega⟩,⟨by omega,fun j j0 j1=>?_⟩,by dsimp only;omega⟩⟩⟩⟩,fun h1=>(d5e (p:=(a:List Int)=b) (c2G hl fun j j0 j1=>hi j j0 (by omega))).symm⟩;by_cases e:j=i
 . subst e;exact d4S.1 he
 . exact hi j j0 (by omega)
def Neq:Env:=NgS.kL 162 ((rL 3).c ((rL 3).c .n)) (.bool) (fun y=>[List.length (α:=Int) y.1<=1000000]) (fun y=>Q9 y.1 y.2.1)
def Neq_ok:c8 Neq:=NgS_ok.kL Tryz.call162 Tryz.func162 (inlHN_ok NgS_ok H0_ok d0o 2) (an:=d0o 162) (fun _ _=>trivial) fun y ho=>kc (peq y.1 y.2.1 ho.1) (by kernel_rfl)
def c4S:Env:=Neq.z7 205 Tryz.f205
def NI205_ok:c8 c4S:=Neq_ok.z7 Tryz.call205 Tryz.func205
def d0R:Nat->D3:=fun|191=>⟨9,nn,nn⟩|205=>⟨19,fun|2=>some ⟨[0,1,7],[.slot 8 (.int .i64)]⟩|_=>none,nn⟩|_=>⟨0,nn,nn⟩
def VgC(l:List Int)(n:Int)(Q:Bool->Prop):Prop:=
∃(I:Int->Prop),∃(m:Int->Nat),I 0/\∀(x:Int),I x->(bR (x<(↑l.length:Int)) (0<=x/\x<(↑l.length:Int)/\(c6 (ix l x)->(bR (n=ix l x) (Q (decide (0<=x))) (c6 (x+1)/\I (x+1)/\m (x+1)<m x)))) (Q (decide ((0:Int)<=(-1:Int)))))
def pgC(l:List Int)(n:Int)(hl:l.length<=1000000):VgC l n (fun y0=>y0=M4 l n):=by
 unfold VgC;refine⟨fun x=>0<=x/\∀j:Int,0<=j->j<x->ix l j≠n,fun x=>((l.length:Int)-x).toNat,⟨by omega,fun j h0 h1=>absurd h1 (by omega)⟩,?_⟩;rintro x ⟨x0,hx⟩;refine⟨fun h=>⟨x0,h,fun _=>⟨fun e=>?_,fun e=>⟨⟨by omega,by omega⟩,⟨by omega,fun j j0 j1=>?_⟩,by dsimp only;omega⟩⟩⟩,fun h=>?_⟩
 . rw[d5e x0];exact(b8Y x0 h e.symm).symm
 . by_cases ej:j=x
   . subst ej;exact fun h=>e h.symm
   . exact hx j j0 (by omega)
 . exact(c3b fun j j0 j1=>hx j j0 (by omega)).symm
def NgC:Env:=c4S.kL 191 ((rL 3).c (rI.c .n)) (.bool) (fun y=>[List.length (α:=Int) y.1<=1000000]) (fun y=>M4 y.1 y.2.1)
def NgC_ok:c8 NgC:=NI205_ok.kL Tryz.call191 Tryz.func191 (inlHN_ok NI205_ok H0_ok d0R 2) (an:=d0R 191) (fun _ _=>trivial) fun y ho=>kc (pgC y.1 y.2.1 ho.1) (by kernel_rfl)
def d0z:Env:=NgC.z7 68 Tryz.f68
def NI68_ok:c8 d0z:=NgC_ok.z7 Tryz.call68 Tryz.func68
def d0G:Nat->D3:=fun|32=>⟨20,nn,nn⟩|68=>⟨6,nn,nn⟩|_=>⟨0,nn,nn⟩
def Vgp(x:Int)(y:Int)(Q:Int->Prop):Prop:=
(bR (x≠x) ((bR (y≠y) (Q 0) (Q (-1:Int)))) ((bR (y≠y) (Q 1) ((bR (x<y) (Q (-1:Int)) ((bR (y<x) (Q 1) (Q 0))))))))
def pgp(x:Int)(y:Int)  : Vgp x y (fun y0=>y0=a6z x y):=by unfold Vgp a6z;refine⟨fun h=>absurd rfl h,fun _=>⟨fun h=>absurd rfl h,fun _=>⟨fun h=>by rw[if_pos h],fun h=>⟨fun h2=>by rw[if_neg h,if_pos h2],fun h2=>by rw[if_neg h,if_neg h2]⟩⟩⟩⟩
def cgp(a:List (SV U)):Option (Q1 U):=match a with|[.int .i64 x,.int .i64 y]=>some ⟨[],[],.int .i64 (a6z x y)⟩|_=>none
def Ngp:Env:=d0z.B3 32 cgp
def Ngp_ok:c8 Ngp:=NI68_ok.B3 Tryz.call32 fun(args:List (SV U)) (q:Q1 U) (h:cgp args=some q) ho=>by
 unfold cgp at h;split at h
 . rename_i x y;cases h;exact I1 (an:=d0G 32) NI68_ok (inlHN_ok NI68_ok H0_ok d0G 2) Tryz.func32 (k:=.int .i64) (x:=a6z x y) trivial (kc (pgp x y ) (by kernel_rfl)) 0
 . cases h
def d2D:Nat->D3:=fun|167=>⟨17,nn,nn⟩|_=>⟨0,nn,nn⟩
def VgO(r:Rl)(Q:Int->Prop):Prop:=
(bR (r.l6=0/\(↑r.q7.length:Int)=0) (Q 53) ((bR (r.l6=1) (Q 5) (Q 0))))
def pgO(r:Rl)  : VgO r (fun y0=>y0=N1 r):=by unfold VgO N1;refine⟨fun h=>by rw[if_neg (by omega),if_pos h],fun h=>⟨fun h1=>by rw[if_pos h1],fun h1=>by rw[if_neg h1,if_neg h]⟩⟩
def NgO:Env:=Ngp.kL 167 (r64.c .n) (.int .i64) (fun _=>[]) (fun y=>N1 y.1)
def NgO_ok:c8 NgO:=Ngp_ok.kL Tryz.call167 Tryz.func167 (inlHN_ok Ngp_ok H0_ok d2D 2) (an:=d2D 167) (fun _ _=>trivial) fun y ho=>kc (pgO y.1 ) (by kernel_rfl)
def d1o:Nat->D3:=fun|169=>⟨24,nn,nn⟩|_=>⟨0,nn,nn⟩
def VgF(r:Rl)(Q:Bool->Prop):Prop:=
(bR (r.l6=2) ((bR (0<(↑r.j9.length:Int)) (Q false) ((bR (0<(↑r.l9.length:Int)) (Q false) ((bR (0<(↑r.q7.length:Int)) (Q false) (Q true))))))) ((bR (r.l6=1) ((bR (r.l6=1) ((bR (0<(↑r.l9.length:Int)) (Q false) ((bR (0<(↑r.q7.length:Int)) (Q false) (Q true))))) ((bR (r.l6=0) (Q true) ((bR (0<(↑r.q7.length:Int)) (Q false) (Q true))))))) ((bR (r.l6=3) ((bR (0<(↑r.l9.length:Int)) (Q false) ((bR (0<(↑r.q7.length:Int)) (Q false) (Q true))))) ((bR (r.l6=0) (Q true) ((bR (0<(↑r.q7.length:Int)) (Q false) (Q true))))))))))
def pgF(r:Rl)  : VgF r (fun y0=>y0=c15 r):=by
 unfold VgF
 repeat' (first|intro _|apply And.intro)
 all_goals first|exact c4N (by unfold b2l;omega)|exact c60 (by unfold b2l;omega)
def NgF:Env:=NgO.kL 169 (r64.c .n) (.bool) (fun _=>[]) (fun y=>c15 y.1)
def NgF_ok:c8 NgF:=NgO_ok.kL Tryz.call169 Tryz.func169 (inlHN_ok NgO_ok H0_ok d1o 2) (an:=d1o 169) (fun _ _=>trivial) fun y ho=>kc (pgF y.1 ) (by kernel_rfl)
def d2H:Nat->D3:=fun|168=>⟨19,nn,nn⟩|_=>⟨0,nn,nn⟩
def VgB(a:Nt)(b:Nt)(Q:Int->Prop):Prop:=
(bR (a6z a.Day b.Day≠0) (Q (a6z a.Day b.Day)) (Q (a6z a.N b.N)))
def pgB(a:Nt)(b:Nt)  : VgB a b (fun y0=>y0=a3N a b):=by unfold VgB a3N;exact⟨fun h=>by rw[if_pos h],fun h=>by rw[if_neg h]⟩
def d3R(a:Nt)(b:Nt):Q1 U:=⟨[],[],.int .i64 (a3N a b)⟩
def cgB(a:List (SV U)):Option (Q1 U):=match a with|[.agg [.int .i64 a0,.int .i64 a1],.agg [.int .i64 b0,.int .i64 b1]]=>some (d3R (⟨a0,a1⟩) (⟨b0,b1⟩))|_=>none
def NgB:Env:=NgF.B3 168 cgB
def NgB_ok:c8 NgB:=NgF_ok.B3 Tryz.call168 fun(args:List (SV U)) (q:Q1 U) (h:cgB args=some q) ho=>by
 unfold cgB at h;split at h
 . rename_i a0 a1 b0 b1;cases h;exact I1 (an:=d2H 168) NgF_ok (inlHN_ok NgF_ok H0_ok d2H 2) Tryz.func168 (k:=.int .i64) (x:=a3N (⟨a0,a1⟩:Nt) (⟨b0,b1⟩:Nt)) trivial (kc (pgB (⟨a0,a1⟩) (⟨b0,b1⟩) ) (by kernel_rfl)) 0
 . cases h
def c4W:Env:=NgB.z7 161 Tryz.f161
def NI161_ok:c8 c4W:=NgB_ok.z7 Tryz.call161 Tryz.func161
def c58:Env:=c4W.z7 166 Tryz.f166
def NI166_ok:c8 c58:=NI161_ok.z7 Tryz.call166 Tryz.func166
def c56:Env:=c58.z7 188 Tryz.f188
def NI188_ok:c8 c56:=NI166_ok.z7 Tryz.call188 Tryz.func188
def b6v:Env:=c56.z7 165 Tryz.f165
def NI165_ok:c8 b6v:=NI188_ok.z7 Tryz.call165 Tryz.func165
def d1N:Nat->D3:=fun|164=>⟨9,nn,nn⟩|188=>⟨19,fun|2=>some ⟨[0,1,7],[.slot 8 (.int .i64)]⟩|_=>none,nn⟩|165=>⟨8,nn,nn⟩|166=>⟨33,nn,nn⟩|_=>⟨0,nn,nn⟩
def VgX(l:List Int)(x:Ls)(Q:Bool->Prop):Prop:=
∃(I:Int->Prop),∃(m:Int->Nat),I 0/\∀(x_1:Int),I x_1->(bR (x_1<(↑l.length:Int)) (0<=x_1/\x_1<(↑l.length:Int)/\(c6 (ix l x_1)->(¬((ix [x] 0).lo<=ix l x_1/\ix l x_1<=(ix [x] 0).hi)/\(ix [x] 0).both=true->c6 ((0:Int)-(ix [x] 0).lo))/\(¬((ix [x] 0).lo<=ix l x_1/\ix l x_1<=(ix [x] 0).hi)/\(ix [x] 0).both=true/\ix l x_1<=(0:Int)-(ix [x] 0).lo->c6 ((0:Int)-(ix [x] 0).hi))/\(bR (¬((ix [x] 0).lo<=ix l x_1/\ix l x_1<=(ix [x] 0).hi∨((ix [x] 0).both=true/\ix l x_1<=(0:Int)-(ix [x] 0).lo)/\(0:Int)-(ix [x] 0).hi<=ix l x_1)) (Q (decide (0<=x_1))) (c6 (x_1+1)/\I (x_1+1)/\m (x_1+1)<m x_1)))) (Q (decide ((0:Int)<=(-1:Int)))))
def pgX(l:List Int)(x:Ls)(hl:l.length<=1000000)(l0:-1000<=x.lo)(l1:x.lo<=1000)(u0:-1000<=x.hi)(u1:x.hi<=1000):VgX l x (fun y0=>y0=a1B l x.lo x.hi x.both):=by
 unfold VgX;have ex:ix [x] 0=x:=rfl;rw[ex];have z:∀n:Int,0-n=-n:=fun n=>by omega
 simp only[z];refine⟨fun i=>0<=i/\∀j:Int,0<=j->j<i->b3p x.lo x.hi x.both (ix l j),fun i=>((l.length:Int)-i).toNat,⟨by omega,fun j a b=>absurd b (by omega)⟩,?_⟩;rintro i ⟨i0,hi⟩;refine⟨fun h=>⟨i0,h,fun _=>⟨fun _=>⟨by omega,by omega⟩,fun _=>⟨by omega,by omega⟩,fun hn=>?_,fun hn=>⟨⟨by omega,by omega⟩,⟨by omega,fun j j0 j1=>?_⟩,by dsimp only;omega⟩⟩⟩,fun h=>?_⟩
 . rw[d5e i0];exact(b3a i0 h hn).symm
 . by_cases e:j=i
   . subst e;exact d4S.1 hn
   . exact hi j j0 (by omega)
 . exact(b5R fun j a b=>hi j a (by omega)).symm
def cgX(a:List (SV U)):Option (Q1 U):=match a with|[.sl 3 l,.clo 165 [.fel 234 [x] 0 0]]=>some ⟨[List.length (α:=Int) l<=1000000,-1000<=x.lo,x.lo<=1000,-1000<=x.hi,x.hi<=1000],[],I4 (a1B l x.lo x.hi x.both)⟩|_=>none
def cgX_ok(args:List (SV U))(q:Q1 U)(h:cgX args=some q)(ho:q9 q.ob):A4 b6v 164 args ⟨q.ob,q.hy,q.v,[]⟩:=by
 unfold cgX at h;split at h
 . rename_i l x;cases h;exact I1 (an:=d1N 164) NI165_ok (inlHN_ok NI165_ok H0_ok d1N 4) Tryz.func164 (k:=.bool) (x:=a1B l x.lo x.hi x.both) trivial (kc (pgX l x ho.1 ho.2.1 ho.2.2.1 ho.2.2.2.1 ho.2.2.2.2.1) (by kernel_rfl)) 0
 . cases h
def c6Q{w:World}{L:Rx.Loc}{D:Nat->Prop}{x:Ls}{c:Value}(ho:Q5 w L.b 234 [sv x.wd,c,.int .i64 x.lo,.int .i64 x.hi,.bool x.both])(hD:D L.b)(hp:D7 c=true)(h1:x.wd.length<=9223372036854775807)(h2:InI x.lo)(h3:InI x.hi):(p7 (U.tb 234).r).rd D w [.slice (some ⟨L.b,0,none⟩) [x].length 1] [x]:=
 ⟨by show(1:Nat)<=9223372036854775807;omega,_,_,rfl,⟨fun h=>(by cases h),d5m _⟩,fun i hi=>by
  have hi:i<1:=hi;have e:i=0:=by omega
  subst e;exact⟨_,_,_,rfl,hD,Q5.cells ho 0 _ [] rfl,c,rfl,hp,h1,h2,h3⟩⟩
def cXr(args:List (SV U))(its:c7 U):Option (Q1 U):=match args with
 |[.sl 3 l,.clo 165 [.ref i 0]]=>(match lk its i with
  |some (.own 234 [.str wd,_,.int .i64 lo,.int .i64 hi,vb])=>(b07 vb).bind fun b=>some ⟨[List.length (α:=Int) l<=1000000,-1000<=lo,lo<=1000,-1000<=hi,hi<=1000],[],I4 (a1B l lo hi b)⟩
  |_=>none)
 |_=>none
def cXr_ok(args:List (SV U))(its:c7 U)(q:Q1 U)(h:cXr args its=some q)(ho:q9 q.ob):b9h Tryz.prog U eT Gl 164 args its q:=by
 unfold cXr at h;split at h
 . rename_i l i;split at h
   . rename_i wd vc lo hi vb hi';obtain⟨b,hb,h⟩:=d5j.1 h;cases h;intro ρ Z w vs hg hh ha;obtain⟨L,cs,hL,hbs,how,hr⟩:=hh _ _ hi';obtain⟨v1,r1,rfl,h1,_,hr⟩:=e8.cons_inv hr;obtain⟨v2,r2,rfl,_,p2,hr⟩:=e8.cons_inv hr;obtain⟨v3,r3,rfl,h3,_,hr⟩:=e8.cons_inv hr;obtain⟨v4,r4,rfl,h4,_,hr⟩:=e8.cons_inv hr;obtain⟨v5,r5,rfl,h5,_,hr⟩:=e8.cons_inv hr;obtain rfl:=e8.A1 hr;have h5:=a3M (E:=b6v) hb h5;cases h1 with|str q1 =>
     cases h3 with|int q3 =>
     cases h4 with|int q4 =>
     cases h5 with|bl =>
     rw[d4Z]at how;obtain⟨u1,rr,rfl,g1,ha⟩:=e7.w4 ha;obtain⟨u2,rr2,rfl,g2,ha⟩:=e7.w4 ha;obtain rfl:=V0 ha;obtain⟨b1,b2,b3,b4,b5,_⟩:=ho;have hrow:=c6Q (L:=L) (D:=fun k=>(Z k/\k<w.heap.size)∨k=L.b) (x:=⟨wd,lo,hi,b⟩) how (.inr rfl) p2 q1 (q3 rfl) (q4 rfl);refine cgX_ok [.sl 3 l,.clo 165 [.fel (N:=U) 234 [Ls.mk wd lo hi b] 0 0]] _ rfl ⟨b1,b2,b3,b4,b5,trivial⟩ (fun k=>(Z k/\k<w.heap.size)∨k=L.b) w _ (fun k hk=>hk.elim (fun h=>h.2) fun h=>by rw[h];exact how.lt) (Gl.I3 hg (Ext.refl [] w) (fun _ h=>by cases h) (fun b hz hb=>.inl ⟨hz,hb⟩)) ?_;refine .I8 (cs:=[_]) ?_ (.I8 (cs:=[]) ?_ .M0)
     . cases g1 with
       |sl g=>exact .sl (Rd.mono _ g (Ext.refl [] w) (fun _ h=>by cases h) fun k hz hk=>.inl ⟨hz,hk⟩)
     . cases g2 with
       |clo g =>
        obtain⟨c1,cr,e1,hc1,hp1,hcr⟩:=e8.cons_inv (cs:=_) g;obtain rfl:=e8.A1 hcr;cases hc1 with
        |ref hL' =>
         rw[hL]at hL';cases hL';have:=e7.fel (N:=U) (T:=eT) (ρ:=fun _=>none) (t:=234) (off:=0) hrow (i:=0) (by omega) (by show(0:Int)<1;omega);rw[show _=_ from e1];exact .clo (e8.cons this rfl e8.nil)
   . cases h
 . cases h
def NXr:Env:=b6v.c43 164 cXr
def NXr_ok:c8 NXr:=NI165_ok.c43 Tryz.call164 cXr_ok
def c9k:Nat->D3:=fun|129=>⟨201,fun|16=>some ⟨[1,3,6,127,128],[.slot 129 (.int .i64)]⟩|7=>some ⟨[1,3,80,81,82],[.unr 9]⟩|_=>none,fun|1000009=>some ⟨[6,19],[]⟩|2000007=>some ⟨[83],[]⟩|2000011=>some ⟨[115],[]⟩|_=>none⟩|161=>⟨36,nn,nn⟩|_=>⟨0,nn,nn⟩
def a3h(r:Rl):=Rl.mk r.l6 r.Interval r.Count r.e9 r.Month r.q7 r.l9 r.j9 r.w9 r.Hour r.Minute r.Second r.y6 r.v8
def c7t(r:Rl):=(bif true then max (1:Int) (↑r.Hour.length:Int)else min (1:Int) (↑r.Hour.length:Int))*bif true then max (1:Int) (↑r.Minute.length:Int)else min (1:Int) (↑r.Minute.length:Int)
def c7A(r:Rl):=(c7t r)*bif true then max (1:Int) (↑r.Second.length:Int)else min (1:Int) (↑r.Second.length:Int)
def VgR(r:Rl)(Q:Bool->Prop):Prop:=
(bR (((((((r.l6<0∨6<r.l6)∨r.Interval<1)∨9999<r.Interval)∨r.Count<0)∨9999<r.Count)∨r.v8<0)∨6<r.v8) (Q false) (((¬1<(↑r.e9.length:Int)/\(↑r.e9.length:Int)=1)/\¬0<r.Count->(0:Int)<=0)/\((¬1<(↑r.e9.length:Int)/\(↑r.e9.length:Int)=1)/\¬0<r.Count->0<(↑r.e9.length:Int))/\(((¬1<(↑r.e9.length:Int)/\(↑r.e9.length:Int)=1)/\¬0<r.Count->c6 (ix r.e9 0).Day.Year)->((¬1<(↑r.e9.length:Int)/\(↑r.e9.length:Int)=1)/\¬0<r.Count->c6 (ix r.e9 0).Day.Month)->((¬1<(↑r.e9.length:Int)/\(↑r.e9.length:Int)=1)/\¬0<r.Count->c6 (ix r.e9 0).Day.Date)->((¬1<(↑r.e9.length:Int)/\(↑r.e9.length:Int)=1)/\¬0<r.Count->c6 (ix r.e9 0).Hour)->((¬1<(↑r.e9.length:Int)/\(↑r.e9.length:Int)=1)/\¬0<r.Count->c6 (ix r.e9 0).Min)->((¬1<(↑r.e9.length:Int)/\(↑r.e9.length:Int)=1)/\¬0<r.Count->c6 (ix r.e9 0).D8)->(bR ((1<(↑r.e9.length:Int)∨(↑r.e9.length:Int)=1/\(0<r.Count∨¬p9 (Tm.mk (Dy.mk (ix r.e9 0).Day.Year (ix r.e9 0).Day.Month (ix r.e9 0).Day.Date) (ix r.e9 0).Hour (ix r.e9 0).Min (ix r.e9 0).D8 (decide ((ix r.e9 0).o7=true)) (decide ((ix r.e9 0).UTC=true)))=true))∨24<(↑r.w9.length:Int)) (Q false) ((0:Int)<=0/\0<(↑(8:Nat):Int)/\(bR (24<(↑r.Month.length:Int)) (((↑r.Month.length:Int)-((24:Int)+1)).NonNeg/\Q false) ((bR (False∨¬Q9 r.Month (O1 r.Month)=true) ((24<(↑r.Month.length:Int)->False)/\(¬False/\r.Month.length<=1000000)/\(¬False->r.Month.length<=1000000)/\(False∨¬Q9 r.Month (O1 r.Month)=true)/\Q false) ((24<(↑r.Month.length:Int)->False)/\(¬False/\r.Month.length<=1000000)/\(¬False->r.Month.length<=1000000)/\(False∨¬Q9 r.Month (O1 r.Month)=true->False)/\((¬False->r.Month.length<=1000000)/\(¬False->(-1000:Int)<=1)/\(¬False->(1:Int)<=1000)/\(¬False->(-1000:Int)<=12)/\(¬False->(12:Int)<=1000))/\(bR (False∨a1B r.Month 1 12 false=true) (Q false) (c6 ((↑r.w9.length:Int)+(↑r.Month.length:Int))/\c6 ((0:Int)+1)/\(0:Int)<=(0:Int)+1/\(0:Int)+1<(↑(8:Nat):Int)/\(bR (24<(↑r.q7.length:Int)) (((↑r.q7.length:Int)-((24:Int)+1)).NonNeg/\Q false) ((bR (False∨¬Q9 r.q7 (O1 r.q7)=true) ((24<(↑r.q7.length:Int)->False)/\(¬False/\r.q7.length<=1000000)/\(¬False->r.q7.length<=1000000)/\(False∨¬Q9 r.q7 (O1 r.q7)=true)/\Q false) ((24<(↑r.q7.length:Int)->False)/\(¬False/\r.q7.length<=1000000)/\(¬False->r.q7.length<=1000000)/\(False∨¬Q9 r.q7 (O1 r.q7)=true->False)/\((¬False->r.q7.length<=1000000)/\(¬False->(-1000:Int)<=1)/\(¬False->(1:Int)<=1000)/\(¬False->(-1000:Int)<=53)/\(¬False->(53:Int)<=1000))/\(bR (False∨a1B r.q7 1 53 true=true) (Q false) (c6 ((↑r.w9.length:Int)+(↑r.Month.length:Int)+(↑r.q7.length:Int))/\c6 ((0:Int)+1+1)/\(0:Int)<=(0:Int)+1+1/\(0:Int)+1+1<(↑(8:Nat):Int)/\(bR (24<(↑r.l9.length:Int)) (((↑r.l9.length:Int)-((24:Int)+1)).NonNeg/\Q false) ((bR (False∨¬Q9 r.l9 (O1 r.l9)=true) ((24<(↑r.l9.length:Int)->False)/\(¬False/\r.l9.length<=1000000)/\(¬False->r.l9.length<=1000000)/\(False∨¬Q9 r.l9 (O1 r.l9)=true)/\Q false) ((24<(↑r.l9.length:Int)->False)/\(¬False/\r.l9.length<=1000000)/\(¬False->r.l9.length<=1000000)/\(False∨¬Q9 r.l9 (O1 r.l9)=true->False)/\((¬False->r.l9.length<=1000000)/\(¬False->(-1000:Int)<=1)/\(¬False->(1:Int)<=1000)/\(¬False->(-1000:Int)<=366)/\(¬False->(366:Int)<=1000))/\(bR (False∨a1B r.l9 1 366 true=true) (Q false) (c6 ((↑r.w9.length:Int)+(↑r.Month.length:Int)+(↑r.q7.length:Int)+(↑r.l9.length:Int))/\c6 ((0:Int)+1+1+1)/\(0:Int)<=(0:Int)+1+1+1/\(0:Int)+1+1+1<(↑(8:Nat):Int)/\(bR (24<(↑r.j9.length:Int)) (((↑r.j9.length:Int)-((24:Int)+1)).NonNeg/\Q false) ((bR (False∨¬Q9 r.j9 (O1 r.j9)=true) ((24<(↑r.j9.length:Int)->False)/\(¬False/\r.j9.length<=1000000)/\(¬False->r.j9.length<=1000000)/\(False∨¬Q9 r.j9 (O1 r.j9)=true)/\Q false) ((24<(↑r.j9.length:Int)->False)/\(¬False/\r.j9.length<=1000000)/\(¬False->r.j9.length<=1000000)/\(False∨¬Q9 r.j9 (O1 r.j9)=true->False)/\((¬False->r.j9.length<=1000000)/\(¬False->(-1000:Int)<=1)/\(¬False->(1:Int)<=1000)/\(¬False->(-1000:Int)<=31)/\(¬False->(31:Int)<=1000))/\(bR (False∨a1B r.j9 1 31 true=true) (Q false) (c6 ((↑r.w9.length:Int)+(↑r.Month.length:Int)+(↑r.q7.length:Int)+(↑r.l9.length:Int)+(↑r.j9.length:Int))/\c6 ((0:Int)+1+1+1+1)/\(0:Int)<=(0:Int)+1+1+1+1/\(0:Int)+1+1+1+1<(↑(8:Nat):Int)/\(bR (24<(↑r.Hour.length:Int)) (((↑r.Hour.length:Int)-((24:Int)+1)).NonNeg/\Q false) ((bR (False∨¬Q9 r.Hour (O1 r.Hour)=true) ((24<(↑r.Hour.length:Int)->False)/\(¬False/\r.Hour.length<=1000000)/\(¬False->r.Hour.length<=1000000)/\(False∨¬Q9 r.Hour (O1 r.Hour)=true)/\Q false) ((24<(↑r.Hour.length:Int)->False)/\(¬False/\r.Hour.length<=1000000)/\(¬False->r.Hour.length<=1000000)/\(False∨¬Q9 r.Hour (O1 r.Hour)=true->False)/\((¬False->r.Hour.length<=1000000)/\(¬False->(-1000:Int)<=0)/\(¬False->(0:Int)<=1000)/\(¬False->(-1000:Int)<=23)/\(¬False->(23:Int)<=1000))/\(bR (False∨a1B r.Hour 0 23 false=true) (Q false) (c6 ((↑r.w9.length:Int)+(↑r.Month.length:Int)+(↑r.q7.length:Int)+(↑r.l9.length:Int)+(↑r.j9.length:Int)+(↑r.Hour.length:Int))/\c6 ((0:Int)+1+1+1+1+1)/\(0:Int)<=(0:Int)+1+1+1+1+1/\(0:Int)+1+1+1+1+1<(↑(8:Nat):Int)/\(bR (24<(↑r.Minute.length:Int)) (((↑r.Minute.length:Int)-((24:Int)+1)).NonNeg/\Q false) ((bR (False∨¬Q9 r.Minute (O1 r.Minute)=true) ((24<(↑r.Minute.length:Int)->False)/\(¬False/\r.Minute.length<=1000000)/\(¬False->r.Minute.length<=1000000)/\(False∨¬Q9 r.Minute (O1 r.Minute)=true)/\Q false) ((24<(↑r.Minute.length:Int)->False)/\(¬False/\r.Minute.length<=1000000)/\(¬False->r.Minute.length<=1000000)/\(False∨¬Q9 r.Minute (O1 r.Minute)=true->False)/\((¬False->r.Minute.length<=1000000)/\(¬False->(-1000:Int)<=0)/\(¬False->(0:Int)<=1000)/\(¬False->(-1000:Int)<=59)/\(¬False->(59:Int)<=1000))/\(bR (False∨a1B r.Minute 0 59 false=true) (Q false) (c6 ((↑r.w9.length:Int)+(↑r.Month.length:Int)+(↑r.q7.length:Int)+(↑r.l9.length:Int)+(↑r.j9.length:Int)+(↑r.Hour.length:Int)+(↑r.Minute.length:Int))/\c6 ((0:Int)+1+1+1+1+1+1)/\(0:Int)<=(0:Int)+1+1+1+1+1+1/\(0:Int)+1+1+1+1+1+1<(↑(8:Nat):Int)/\(bR (24<(↑r.Second.length:Int)) (((↑r.Second.length:Int)-((24:Int)+1)).NonNeg/\Q false) ((bR (False∨¬Q9 r.Second (O1 r.Second)=true) ((24<(↑r.Second.length:Int)->False)/\(¬False/\r.Second.length<=1000000)/\(¬False->r.Second.length<=1000000)/\(False∨¬Q9 r.Second (O1 r.Second)=true)/\Q false) ((24<(↑r.Second.length:Int)->False)/\(¬False/\r.Second.length<=1000000)/\(¬False->r.Second.length<=1000000)/\(False∨¬Q9 r.Second (O1 r.Second)=true->False)/\((¬False->r.Second.length<=1000000)/\(¬False->(-1000:Int)<=0)/\(¬False->(0:Int)<=1000)/\(¬False->(-1000:Int)<=59)/\(¬False->(59:Int)<=1000))/\(bR (False∨a1B r.Second 0 59 false=true) (Q false) (c6 ((↑r.w9.length:Int)+(↑r.Month.length:Int)+(↑r.q7.length:Int)+(↑r.l9.length:Int)+(↑r.j9.length:Int)+(↑r.Hour.length:Int)+(↑r.Minute.length:Int)+(↑r.Second.length:Int))/\c6 ((0:Int)+1+1+1+1+1+1+1)/\(0:Int)<=(0:Int)+1+1+1+1+1+1+1/\(0:Int)+1+1+1+1+1+1+1<(↑(8:Nat):Int)/\(bR (24<(↑r.y6.length:Int)) (((↑r.y6.length:Int)-((24:Int)+1)).NonNeg/\Q false) ((bR (False∨¬Q9 r.y6 (O1 r.y6)=true) ((24<(↑r.y6.length:Int)->False)/\(¬False/\r.y6.length<=1000000)/\(¬False->r.y6.length<=1000000)/\(False∨¬Q9 r.y6 (O1 r.y6)=true)/\Q false) ((24<(↑r.y6.length:Int)->False)/\(¬False/\r.y6.length<=1000000)/\(¬False->r.y6.length<=1000000)/\(False∨¬Q9 r.y6 (O1 r.y6)=true->False)/\((¬False->r.y6.length<=1000000)/\(¬False->(-1000:Int)<=1)/\(¬False->(1:Int)<=1000)/\(¬False->(-1000:Int)<=366)/\(¬False->(366:Int)<=1000))/\(bR (False∨a1B r.y6 1 366 true=true) (Q false) (c6 ((0:Int)+1+1+1+1+1+1+1+1)/\∃(I:Int->Prop),∃(m:Int->Nat),I 0/\∀(x:Int),I x->(bR (x<(↑r.w9.length:Int)) (0<=x/\x<(↑r.w9.length:Int)/\(c6 (ix r.w9 x).N->c6 (ix r.w9 x).Day->(¬(((ix r.w9 x).Day<0∨6<(ix r.w9 x).Day)∨N1 (a3h r)<(ix r.w9 x).N)->c6 ((0:Int)-N1 (a3h r)))/\(¬((((ix r.w9 x).Day<0∨6<(ix r.w9 x).Day)∨N1 (a3h r)<(ix r.w9 x).N)∨(ix r.w9 x).N<(0:Int)-N1 (a3h r))/\0<x->c6 (x-1))/\((¬((((ix r.w9 x).Day<0∨6<(ix r.w9 x).Day)∨N1 (a3h r)<(ix r.w9 x).N)∨(ix r.w9 x).N<(0:Int)-N1 (a3h r))/\0<x->0<=x-1)/\(¬((((ix r.w9 x).Day<0∨6<(ix r.w9 x).Day)∨N1 (a3h r)<(ix r.w9 x).N)∨(ix r.w9 x).N<(0:Int)-N1 (a3h r))/\0<x->x-1<(↑r.w9.length:Int)))/\((¬((((ix r.w9 x).Day<0∨6<(ix r.w9 x).Day)∨N1 (a3h r)<(ix r.w9 x).N)∨(ix r.w9 x).N<(0:Int)-N1 (a3h r))/\0<x->c6 (ix r.w9 (x-1)).N)->(¬((((ix r.w9 x).Day<0∨6<(ix r.w9 x).Day)∨N1 (a3h r)<(ix r.w9 x).N)∨(ix r.w9 x).N<(0:Int)-N1 (a3h r))/\0<x->c6 (ix r.w9 (x-1)).Day)->(bR (((((ix r.w9 x).Day<0∨6<(ix r.w9 x).Day)∨N1 (a3h r)<(ix r.w9 x).N)∨(ix r.w9 x).N<(0:Int)-N1 (a3h r))∨0<x/\0<=a3N (Nt.mk (ix r.w9 (x-1)).N (ix r.w9 (x-1)).Day) (Nt.mk (ix r.w9 x).N (ix r.w9 x).Day)) (Q false) (c6 (x+1)/\I (x+1)/\m (x+1)<m x))))) (c6 (c7t r)/\c6 (c7A r)/\Q (decide ((c15 (a3h r)=true/\(0<(↑r.w9.length:Int)+(↑r.Month.length:Int)+(↑r.q7.length:Int)+(↑r.l9.length:Int)+(↑r.j9.length:Int)+(↑r.Hour.length:Int)+(↑r.Minute.length:Int)+(↑r.Second.length:Int)∨(↑r.y6.length:Int)=0))/\(c7A r)<=48)))))))))))))))))))))))))))))))))))))))))))))))))))))))))
set_option maxHeartbeats 2000000 in
def pgR(r:Rl)(hfw:F9 r=true):VgR r (fun y0=>y0=N5 r):=by
 unfold VgR c7A c7t a3h;obtain⟨wmo,wwn,wyd,wmd,wdy,who,wmi,wse,wsp,wti⟩:=fewR_ok hfw;rw[show(Rl.mk r.l6 r.Interval r.Count r.e9 r.Month r.q7 r.l9 r.j9 r.w9 r.Hour r.Minute r.Second r.y6 r.v8)=r from rfl];refine⟨fun h=>(x9 fun R=>by obtain⟨a1,a2,a3,a4,a5,a6,a7,a8⟩:=R.head;omega).symm,fun h=>?_⟩;have hH:b5O r:=⟨by omega,by omega,by omega,by omega,by omega,by omega,by omega,by omega⟩;clear h;refine⟨fun _=>by decide,fun h=>by omega,fun _ _ _ _ _ _=>?_⟩;refine⟨fun hu=>(x9 fun R=>?_).symm,fun hu=>?_⟩
 . simp only[d4Z]at hu;obtain⟨a,b⟩:=R.H8;have c:=R.few;rcases hu with(hu|⟨h1,hu|hu⟩)|hu
   . omega
   . have:=(b h1).1;omega
   . exact hu (b h1).2
   . omega
 simp only[d4Z]at hu;have hU:b9M r:=by have u1:¬1<(r.e9.length:Int):=fun h=>hu (.inl (.inl h));exact⟨by omega,fun h1=>⟨by have:¬0<r.Count:=fun h=>hu (.inl (.inr ⟨h1,.inl h⟩));omega,d4S.1 fun hn=>hu (.inl (.inr ⟨h1,.inr hn⟩))⟩⟩
 have h24:(r.w9.length:Int)<=24:=by have:¬24<(r.w9.length:Int):=fun h=>hu (.inr h);omega
 clear hu;refine⟨by decide,by decide,fun a=>⟨a,(x9 fun R=>a5B a R.lists.mo).symm⟩,fun a=>⟨fun e=>⟨fun x=>a x,⟨d6W,by omega⟩,fun _=>by omega,e,(x9 fun R=>a5v e R.lists.mo).symm⟩,fun e=>⟨fun x=>a x,⟨d6W,by omega⟩,fun _=>by omega,fun x=>e x,⟨fun _=>by omega,fun _=>by decide,fun _=>by decide,fun _=>by decide,fun _=>by decide⟩,fun c=>(x9 fun R=>a5D (by decide) c R.lists.mo).symm,fun c=>?_⟩⟩⟩;have r_mo:Z7 r.Month 1 12 false:=a5x (by decide) a e c;clear a e c;refine⟨⟨by omega,by omega⟩,⟨by omega,by omega⟩,?_⟩;refine⟨by decide,by decide,fun a=>⟨a,(x9 fun R=>a5B a R.lists.wn).symm⟩,fun a=>⟨fun e=>⟨fun x=>a x,⟨d6W,by omega⟩,fun _=>by omega,e,(x9 fun R=>a5v e R.lists.wn).symm⟩,fun e=>⟨fun x=>a x,⟨d6W,by omega⟩,fun _=>by omega,fun x=>e x,⟨fun _=>by omega,fun _=>by decide,fun _=>by decide,fun _=>by decide,fun _=>by decide⟩,fun c=>(x9 fun R=>a5D (by decide) c R.lists.wn).symm,fun c=>?_⟩⟩⟩;have r_wn:Z7 r.q7 1 53 true:=a5x (by decide) a e c;clear a e c;refine⟨⟨by omega,by omega⟩,⟨by omega,by omega⟩,?_⟩;refine⟨by decide,by decide,fun a=>⟨a,(x9 fun R=>a5B a R.lists.yd).symm⟩,fun a=>⟨fun e=>⟨fun x=>a x,⟨d6W,by omega⟩,fun _=>by omega,e,(x9 fun R=>a5v e R.lists.yd).symm⟩,fun e=>⟨fun x=>a x,⟨d6W,by omega⟩,fun _=>by omega,fun x=>e x,⟨fun _=>by omega,fun _=>by decide,fun _=>by decide,fun _=>by decide,fun _=>by decide⟩,fun c=>(x9 fun R=>a5D (by decide) c R.lists.yd).symm,fun c=>?_⟩⟩⟩;have r_yd:Z7 r.l9 1 366 true:=a5x (by decide) a e c;clear a e c;refine⟨⟨by omega,by omega⟩,⟨by omega,by omega⟩,?_⟩;refine⟨by decide,by decide,fun a=>⟨a,(x9 fun R=>a5B a R.lists.md).symm⟩,fun a=>⟨fun e=>⟨fun x=>a x,⟨d6W,by omega⟩,fun _=>by omega,e,(x9 fun R=>a5v e R.lists.md).symm⟩,fun e=>⟨fun x=>a x,⟨d6W,by omega⟩,fun _=>by omega,fun x=>e x,⟨fun _=>by omega,fun _=>by decide,fun _=>by decide,fun _=>by decide,fun _=>by decide⟩,fun c=>(x9 fun R=>a5D (by decide) c R.lists.md).symm,fun c=>?_⟩⟩⟩;have r_md:Z7 r.j9 1 31 true:=a5x (by decide) a e c;clear a e c;refine⟨⟨by omega,by omega⟩,⟨by omega,by omega⟩,?_⟩;refine⟨by decide,by decide,fun a=>⟨a,(x9 fun R=>a5B a R.lists.ho).symm⟩,fun a=>⟨fun e=>⟨fun x=>a x,⟨d6W,by omega⟩,fun _=>by omega,e,(x9 fun R=>a5v e R.lists.ho).symm⟩,fun e=>⟨fun x=>a x,⟨d6W,by omega⟩,fun _=>by omega,fun x=>e x,⟨fun _=>by omega,fun _=>by decide,fun _=>by decide,fun _=>by decide,fun _=>by decide⟩,fun c=>(x9 fun R=>a5D (by decide) c R.lists.ho).symm,fun c=>?_⟩⟩⟩;have r_ho:Z7 r.Hour 0 23 false:=a5x (by decide) a e c;clear a e c;refine⟨⟨by omega,by omega⟩,⟨by omega,by omega⟩,?_⟩;refine⟨by decide,by decide,fun a=>⟨a,(x9 fun R=>a5B a R.lists.mi).symm⟩,fun a=>⟨fun e=>⟨fun x=>a x,⟨d6W,by omega⟩,fun _=>by omega,e,(x9 fun R=>a5v e R.lists.mi).symm⟩,fun e=>⟨fun x=>a x,⟨d6W,by omega⟩,fun _=>by omega,fun x=>e x,⟨fun _=>by omega,fun _=>by decide,fun _=>by decide,fun _=>by decide,fun _=>by decide⟩,fun c=>(x9 fun R=>a5D (by decide) c R.lists.mi).symm,fun c=>?_⟩⟩⟩;have r_mi:Z7 r.Minute 0 59 false:=a5x (by decide) a e c;clear a e c;refine⟨⟨by omega,by omega⟩,⟨by omega,by omega⟩,?_⟩;refine⟨by decide,by decide,fun a=>⟨a,(x9 fun R=>a5B a R.lists.se).symm⟩,fun a=>⟨fun e=>⟨fun x=>a x,⟨d6W,by omega⟩,fun _=>by omega,e,(x9 fun R=>a5v e R.lists.se).symm⟩,fun e=>⟨fun x=>a x,⟨d6W,by omega⟩,fun _=>by omega,fun x=>e x,⟨fun _=>by omega,fun _=>by decide,fun _=>by decide,fun _=>by decide,fun _=>by decide⟩,fun c=>(x9 fun R=>a5D (by decide) c R.lists.se).symm,fun c=>?_⟩⟩⟩;have r_se:Z7 r.Second 0 59 false:=a5x (by decide) a e c;clear a e c;refine⟨⟨by omega,by omega⟩,⟨by omega,by omega⟩,?_⟩;refine⟨by decide,by decide,fun a=>⟨a,(x9 fun R=>a5B a R.lists.sp).symm⟩,fun a=>⟨fun e=>⟨fun x=>a x,⟨d6W,by omega⟩,fun _=>by omega,e,(x9 fun R=>a5v e R.lists.sp).symm⟩,fun e=>⟨fun x=>a x,⟨d6W,by omega⟩,fun _=>by omega,fun x=>e x,⟨fun _=>by omega,fun _=>by decide,fun _=>by decide,fun _=>by decide,fun _=>by decide⟩,fun c=>(x9 fun R=>a5D (by decide) c R.lists.sp).symm,fun c=>?_⟩⟩⟩;have r_sp:Z7 r.y6 1 366 true:=a5x (by decide) a e c;clear a e c;refine⟨⟨by omega,by omega⟩,?_⟩;have hL:b4G r:=⟨r_mo,r_wn,r_yd,r_md,r_ho,r_mi,r_se,r_sp⟩;have m0:0<=N1 r/\N1 r<=53:=by
  unfold N1;split
  . omega
  . split <;> omega
 refine⟨fun x=>0<=x/\x<=r.w9.length/\a1t r.w9 (N1 r) x,fun x=>((r.w9.length:Int)-x).toNat,⟨d5o _,by omega,a1t.nil⟩,?_⟩;rintro x ⟨x0,x1,hd⟩;rw[show Nt.mk (ix r.w9 (x-1)).N (ix r.w9 (x-1)).Day=ix r.w9 (x-1)from rfl,show Nt.mk (ix r.w9 x).N (ix r.w9 x).Day=ix r.w9 x from rfl];refine⟨fun hx=>⟨x0,hx,fun _ _=>⟨fun _=>⟨by omega,by omega⟩,fun h=>⟨by omega,by omega⟩,⟨fun h=>by omega,fun h=>by omega⟩,fun _ _=>⟨fun hb=>?_,fun hb=>?_⟩⟩⟩,fun hx=>?_⟩
 . refine(x9 fun R=>?_).symm;obtain⟨a1,a2,a3,a4⟩:=R.days.ok x x0 hx;rcases hb with(((h|h)|h)|h)|⟨h0,h⟩
   . omega
   . omega
   . omega
   . omega
   . exact a7E.1 h (R.days.up x h0 hx)
 . have hb':=fun h=>hb (.inl h);exact⟨⟨by omega,by omega⟩,⟨by omega,by omega,hd.step ⟨by omega,by omega,by omega,by omega⟩ fun h0=>d4S.1 fun hn=>hb (.inr ⟨h0,a7E.2 hn⟩)⟩,by dsimp only;omega⟩
 . have b1:∀a b:Int,(bif true then a else b)=a:=fun _ _=>rfl;rw[b1,b1,b1,a7T,a7T,a7T];have l1:=@a6Z r.Hour;have l2:=@a6Z r.Minute;have l3:=@a6Z r.Second;have k:=c9H (a:=a1X r.Hour) (b:=a1X r.Minute) (c:=a1X r.Second) (by omega) (by omega) (by omega);refine⟨k.1,k.2,?_⟩;refine d6L.2 (Iff.trans d5M (Iff.trans ?_ s7.symm));constructor
   . rintro⟨⟨hf,hs⟩,hc⟩;exact⟨hH,hU,hL,h24,hd.done hx,d4S.1 fun hn=>(by rw[<- c60 hn]at hf;cases hf),⟨by omega,hc⟩⟩
   . intro R;obtain⟨s1,s2⟩:=R.some;exact⟨⟨(c4N R.fit).symm,by omega⟩,s2⟩
def NgR:Env:=NXr.kL 129 (r64.c .n) (.bool) (fun y=>[F9 y.1=true]) (fun y=>N5 y.1)
def NgR_ok:c8 NgR:=NXr_ok.kL Tryz.call129 Tryz.func129 (inlHN_ok NXr_ok H0_ok c9k 4) (an:=c9k 129) (fun _ _=>trivial) fun y ho=>kc (pgR y.1 ho.1) (by kernel_rfl)
def d2R:Nat->D3:=fun|80=>⟨57,fun|4=>some ⟨[2,3,16,17],[.slot 18 (.int .i64)]⟩|_=>none,nn⟩|_=>⟨0,nn,nn⟩
def c7v(r:Rl):=Rl.mk r.l6 r.Interval r.Count r.e9 r.Month r.q7 r.l9 r.j9 r.w9 r.Hour r.Minute r.Second r.y6 r.v8
def VcF(s:Tm)(r:Rl)(Q:Bool->Prop):Prop:=
(¬¬p9 (Tm.mk (Dy.mk s.Day.Year s.Day.Month s.Day.Date) s.Hour s.Min s.D8 (decide (s.o7=true)) (decide (s.UTC=true)))=true->F9 (c7v r)=true)/\(bR (¬p9 (Tm.mk (Dy.mk s.Day.Year s.Day.Month s.Day.Date) s.Hour s.Min s.D8 (decide (s.o7=true)) (decide (s.UTC=true)))=true∨¬N5 (c7v r)=true) (Q false) (∃(I:Int->Prop),∃(m:Int->Nat),I 0/\∀(x:Int),I x->(bR (x<(↑r.e9.length:Int)) (0<=x/\x<(↑r.e9.length:Int)/\(c6 (ix r.e9 x).Day.Year->c6 (ix r.e9 x).Day.Month->c6 (ix r.e9 x).Day.Date->c6 (ix r.e9 x).Hour->c6 (ix r.e9 x).Min->c6 (ix r.e9 x).D8->(bR (¬((ix r.e9 x).o7=true↔s.o7=true)∨¬((ix r.e9 x).UTC=true↔s.UTC=true)) (Q false) (c6 (x+1)/\I (x+1)/\m (x+1)<m x)))) ((¬¬s.o7=true/\r.l6<=3->c6 ((↑r.Hour.length:Int)+(↑r.Minute.length:Int)))/\(¬¬s.o7=true/\r.l6<=3->c6 ((↑r.Hour.length:Int)+(↑r.Minute.length:Int)+(↑r.Second.length:Int)))/\Q (decide (¬s.o7=true∨r.l6<=3/\(↑r.Hour.length:Int)+(↑r.Minute.length:Int)+(↑r.Second.length:Int)=0))))))
def pcF(s:Tm)(r:Rl)(hfw:F9 r=true):VcF s r (fun y0=>y0=G3 s r):=by
 unfold VcF c7v;rw[show(Rl.mk r.l6 r.Interval r.Count r.e9 r.Month r.q7 r.l9 r.j9 r.w9 r.Hour r.Minute r.Second r.y6 r.v8)=r from rfl];simp only[d4Z];refine⟨fun _=>hfw,fun h=>b5w fun F=>h.elim (fun h=>h F.rt) fun h=>h F.rr,fun h=>?_⟩;have rt:p9 s=true:=d4S.1 fun hn=>h (.inl hn);have rr:N5 r=true:=d4S.1 fun hn=>h (.inr hn);obtain⟨wmo,wwn,wyd,wmd,wdy,who,wmi,wse,wsp,wti⟩:=fewR_ok hfw;have hl:(r.e9.length:Int)<=1:=(s7.1 rr).H8.1;refine⟨fun x=>0<=x/\(0<x->(((ix r.e9 0).o7=true↔s.o7=true)/\((ix r.e9 0).UTC=true↔s.UTC=true))),fun x=>((r.e9.length:Int)-x).toNat,⟨d5o _,fun h=>by omega⟩,?_⟩;rintro x ⟨x0,hx⟩;refine⟨fun h1=>?_,fun h1=>?_⟩
 . obtain rfl:x=0:=by omega
   refine⟨x0,h1,fun _ _ _ _ _ _=>⟨fun hn=>b5w fun F=>?_,fun hn=>⟨by decide,⟨by decide,fun _=>⟨d4S.1 fun h=>hn (.inl h),d4S.1 fun h=>hn (.inr h)⟩⟩,by dsimp only;omega⟩⟩⟩;obtain⟨a,b⟩:=F.un h1;exact hn.elim (fun h=>h a) fun h=>h b
 . refine⟨fun _=>⟨by omega,by omega⟩,fun _=>⟨by omega,by omega⟩,?_⟩;refine d6L.2 (Iff.trans d5M (Iff.trans ?_ J7.symm));constructor
   . intro hb;exact⟨rt,rr,fun h0=>hx (by omega),fun hs=>by rcases hb with hb|⟨hb,hc⟩;exact absurd hs hb;exact⟨hb,by omega,by omega,by omega⟩⟩
   . intro F;by_cases hs:s.o7=true
     . obtain⟨a,b,c,d⟩:=F.ba hs;exact .inr ⟨a,by omega⟩
     . exact .inl hs
def NcF:Env:=NgR.kL 80 (r26.c (r64.c .n)) (.bool) (fun y=>[F9 y.2.1=true]) (fun y=>G3 y.1 y.2.1)
def NcF_ok:c8 NcF:=NgR_ok.kL Tryz.call80 Tryz.func80 (inlHN_ok NgR_ok H0_ok d2R 2) (an:=d2R 80) (fun _ _=>trivial) fun y ho=>kc (pcF y.1 y.2.1 ho.1) (by kernel_rfl)
def d1A:Nat->D3:=fun|174=>⟨18,nn,nn⟩|_=>⟨0,nn,nn⟩
def Vch(l:List Int)(n:Int)(a:Int)(Q:Bool->Prop):Prop:=
l.length<=1000000/\(¬M4 l n=true->c6 (n-a))/\(¬M4 l n=true->c6 (n-a-1))/\(¬M4 l n=true->l.length<=1000000)/\Q (decide (M4 l n=true∨M4 l (n-a-1)=true))
def pch(l:List Int)(n:Int)(a:Int)(hl:l.length<=1000000)(n0:-10000000<=n)(n1:n<=10000000)(a0:-10000000<=a)(a1:a<=10000000):Vch l n a (fun y0=>y0=Re.a3L l n a):=by unfold Vch Re.a3L;refine⟨hl,fun _=>⟨by omega,by omega⟩,fun _=>⟨by omega,by omega⟩,fun _=>hl,c1p ?_⟩;rw[d5V]
def Nch:Env:=NcF.kL 174 ((rL 3).c (rI.c (rI.c .n))) (.bool) (fun y=>[List.length (α:=Int) y.1<=1000000,-10000000<=y.2.1,y.2.1<=10000000,-10000000<=y.2.2.1,y.2.2.1<=10000000]) (fun y=>Re.a3L y.1 y.2.1 y.2.2.1)
def Nch_ok:c8 Nch:=NcF_ok.kL Tryz.call174 Tryz.func174 (inlHN_ok NcF_ok H0_ok d1A 2) (an:=d1A 174) (fun _ _=>trivial) fun y ho=>kc (pch y.1 y.2.1 y.2.2.1 ho.1 ho.2.1 ho.2.2.1 ho.2.2.2.1 ho.2.2.2.2.1) (by kernel_rfl)
def d03:Nat->D3:=fun|137=>⟨53,nn,nn⟩|_=>⟨0,nn,nn⟩
def b0g(t:Int):=A7 (t.tdiv (86400:Int)+1)
def Vci(x:Lk)(t:Int)(Q:Int->Prop):Prop:=
(86400:Int)≠0/\c6 (t.tdiv 86400)/\c6 (t.tdiv (86400:Int)+1)/\(bR ((ix [x] 0).b9.l6=0) (Q (b0g t).Year) ((bR ((ix [x] 0).b9.l6=1) (c6 ((12:Int)*(b0g t).Year)/\c6 ((12:Int)*(b0g t).Year+(b0g t).Month)/\c6 ((12:Int)*(b0g t).Year+(b0g t).Month-1)/\Q ((12:Int)*(b0g t).Year+(b0g t).Month-1)) ((bR ((ix [x] 0).b9.l6=2) (c6 (t.tdiv (86400:Int)+1+6)/\c6 (t.tdiv (86400:Int)+1+6-(ix [x] 0).b9.v8)/\(7:Int)≠0/\c6 ((t.tdiv (86400:Int)+1+6-(ix [x] 0).b9.v8).tdiv 7)/\Q ((t.tdiv (86400:Int)+1+6-(ix [x] 0).b9.v8).tdiv 7)) ((bR ((ix [x] 0).b9.l6=3) (Q (t.tdiv (86400:Int)+1)) ((bR ((ix [x] 0).b9.l6=4) ((3600:Int)≠0/\c6 (t.tdiv 3600)/\Q (t.tdiv 3600)) ((bR ((ix [x] 0).b9.l6=5) ((60:Int)≠0/\c6 (t.tdiv 60)/\Q (t.tdiv 60)) (Q t))))))))))))
def pci(x:Lk)(t:Int)(t0:0<=t)(t1:t<=400000000000)(w0:0<=x.b9.v8)(w1:x.b9.v8<=6):Vci x t (fun y0=>y0=l8 x.b9 t):=by unfold Vci b0g l8 a1K;have ex:ix [x] 0=x:=rfl;rw[ex];have e0:t.tdiv 86400=t / 86400:=d5b t0;have e1:t.tdiv 3600=t / 3600:=d5b t0;have e2:t.tdiv 60=t / 60:=d5b t0;have e3:(t / 86400+1+6-x.b9.v8).tdiv 7=(t / 86400+1+6-x.b9.v8) / 7:=d5b (by omega);rw[e0,e1,e2,e3];obtain⟨y,m,_⟩:=b6l (t / 86400+1);refine⟨by decide,⟨by omega,by omega⟩,⟨by omega,by omega⟩,fun h=>by rw[if_pos h,if_neg (by omega)];omega,fun h0=>⟨fun h=>⟨⟨by omega,by omega⟩,⟨by omega,by omega⟩,⟨by omega,by omega⟩,by rw[if_neg h0,if_pos h,if_pos h]⟩,fun h1=>⟨fun h=>⟨⟨by omega,by omega⟩,⟨by omega,by omega⟩,by decide,⟨by omega,by omega⟩,by rw[if_neg h0,if_neg h1,if_pos h,if_neg h1];omega⟩,fun h2=>⟨fun h=>by rw[if_neg h0,if_neg h1,if_neg h2,if_pos h,if_neg h1];omega,fun h3=>⟨fun h=>⟨by decide,⟨by omega,by omega⟩,by rw[if_neg h0,if_neg h1,if_neg h2,if_neg h3,if_pos h,if_neg h1];omega⟩,fun h4=>⟨fun h=>⟨by decide,⟨by omega,by omega⟩,by rw[if_neg h0,if_neg h1,if_neg h2,if_neg h3,if_neg h4,if_pos h,if_neg h1];omega⟩,fun h5=>by rw[if_neg h0,if_neg h1,if_neg h2,if_neg h3,if_neg h4,if_neg h5,if_neg h1];omega⟩⟩⟩⟩⟩⟩
def cci(a:List (SV U)):Option (Q1 U):=match a with|[.fel 203 [x] 0 0,.int .i64 t]=>some ⟨[0<=t,t<=400000000000,0<=x.b9.v8,x.b9.v8<=6],[],.int .i64 (l8 x.b9 t)⟩|_=>none
def Nci:Env:=Nch.B3 137 cci
def Nci_ok:c8 Nci:=Nch_ok.B3 Tryz.call137 fun(args:List (SV U)) (q:Q1 U) (h:cci args=some q) ho=>by
 unfold cci at h;split at h
 . rename_i x t;cases h;exact I1 (an:=d03 137) Nch_ok (inlHN_ok Nch_ok H0_ok d03 2) Tryz.func137 (k:=.int .i64) (x:=l8 x.b9 t) trivial (kc (pci x t ho.1 ho.2.1 ho.2.2.1 ho.2.2.2.1) (by kernel_rfl)) 0
 . cases h
def d0K:Nat->D3:=fun|138=>⟨61,nn,nn⟩|_=>⟨0,nn,nn⟩
def c0Z(i:Int)(x:Lk):=bif true then max (1:Int) ((7:Int)*i-6+(ix [x] 0).b9.v8)else min (1:Int) ((7:Int)*i-6+(ix [x] 0).b9.v8)
def b78(i:Int):=Dy.mk (i.tdiv 12) (i.tmod (12:Int)+1) 1
def Vcb(x:Lk)(i:Int)(Q:Int->Prop):Prop:=
(bR ((ix [x] 0).b9.l6=0) ((bR (u9 (Dy.mk i 1 1)=0∨3652059<u9 (Dy.mk i 1 1)) (Q 315537897600) (c6 (u9 (Dy.mk i 1 1)-1)/\c6 ((u9 (Dy.mk i 1 1)-1)*86400)/\Q ((u9 (Dy.mk i 1 1)-1)*86400)))) ((bR ((ix [x] 0).b9.l6=1) ((12:Int)≠0/\c6 (i.tdiv 12)/\(12:Int)≠0/\c6 (i.tmod (12:Int)+1)/\(bR (u9 (b78 i)=0∨3652059<u9 (b78 i)) (Q 315537897600) (c6 (u9 (b78 i)-1)/\c6 ((u9 (b78 i)-1)*86400)/\Q ((u9 (b78 i)-1)*86400)))) ((bR ((ix [x] 0).b9.l6=2) (c6 ((7:Int)*i)/\c6 ((7:Int)*i-6)/\c6 ((7:Int)*i-6+(ix [x] 0).b9.v8)/\(bR (((c0Z i x)=0∨3652059<bif true then max (1:Int) ((7:Int)*i-6+(ix [x] 0).b9.v8)else min (1:Int) ((7:Int)*i-6+(ix [x] 0).b9.v8))) (Q 315537897600) (c6 ((c0Z i x)-1)/\c6 (((c0Z i x)-1)*86400)/\Q (((c0Z i x)-1)*86400)))) ((bR ((ix [x] 0).b9.l6=3) ((bR (i=0∨3652059<i) (Q 315537897600) (c6 (i-1)/\c6 ((i-1)*86400)/\Q ((i-1)*86400)))) ((bR ((ix [x] 0).b9.l6=4) (c6 ((bif false then max i 87649416 else min i 87649416)*3600)/\Q ((bif false then max i 87649416 else min i 87649416)*3600)) ((bR ((ix [x] 0).b9.l6=5) (c6 ((bif false then max i 5258964960 else min i 5258964960)*60)/\Q ((bif false then max i 5258964960 else min i 5258964960)*60)) (Q (bif false then max i 315537897600 else min i 315537897600)))))))))))))
set_option maxHeartbeats 2000000 in
def pcb(x:Lk)(i:Int)(i0:0<=i)(i1:i<=1000000000000)(w0:0<=x.b9.v8)(w1:x.b9.v8<=6):Vcb x i (fun y0=>y0=C2 x.b9 i):=by
 unfold Vcb b78 c0Z C2;have ex:ix [x] 0=x:=rfl;rw[ex];have b0:∀a b:Int,(bif false then max a b else min a b)=min a b:=fun _ _=>rfl;have b1:∀a b:Int,(bif true then max a b else min a b)=max a b:=fun _ _=>rfl;have e0:i.tdiv 12=i / 12:=d5b i0;have e1:i.tmod 12=i%12:=d5L i0;simp only[b0,b1,e0,e1];have n1:=a5Z ⟨i,1,1⟩;have n2:=a5Z ⟨i / 12,i%12+1,1⟩;have nb:∀n:Int,(n=0∨3652059<n->(315537897600:Int)=nbP n)/\(¬(n=0∨3652059<n)->(n-1)*86400=nbP n):=fun n=>by unfold nbP;exact⟨fun h=>by rw[if_pos h],fun h=>by rw[if_neg h]⟩
 refine⟨fun h=>?_,fun h0=>⟨fun h=>⟨by decide,⟨by omega,by omega⟩,by decide,⟨by omega,by omega⟩,?_,?_⟩,fun h1=>⟨fun h=>⟨⟨by omega,by omega⟩,⟨by omega,by omega⟩,⟨by omega,by omega⟩,?_,?_⟩,fun h2=>⟨fun h=>⟨?_,?_⟩,fun h3=>⟨fun h=>⟨⟨by omega,by omega⟩,?_⟩,fun h4=>⟨fun h=>⟨⟨by omega,by omega⟩,?_⟩,fun h5=>?_⟩⟩⟩⟩⟩⟩
 . rw[if_pos h];exact⟨(nb _).1,fun hn=>⟨⟨by omega,by omega⟩,⟨by omega,by omega⟩,(nb _).2 hn⟩⟩
 . rw[if_neg h0,if_pos h];exact(nb _).1
 . rw[if_neg h0,if_pos h];exact fun hn=>⟨⟨by omega,by omega⟩,⟨by omega,by omega⟩,(nb _).2 hn⟩
 . rw[if_neg h0,if_neg h1,if_pos h];exact(nb _).1
 . rw[if_neg h0,if_neg h1,if_pos h];exact fun hn=>⟨⟨by omega,by omega⟩,⟨by omega,by omega⟩,(nb _).2 hn⟩
 . rw[if_neg h0,if_neg h1,if_neg h2,if_pos h];exact(nb _).1
 . rw[if_neg h0,if_neg h1,if_neg h2,if_pos h];exact fun hn=>⟨⟨by omega,by omega⟩,⟨by omega,by omega⟩,(nb _).2 hn⟩
 . rw[if_neg h0,if_neg h1,if_neg h2,if_neg h3,if_pos h]
 . rw[if_neg h0,if_neg h1,if_neg h2,if_neg h3,if_neg h4,if_pos h]
 . rw[if_neg h0,if_neg h1,if_neg h2,if_neg h3,if_neg h4,if_neg h5]
def ccb(a:List (SV U)):Option (Q1 U):=match a with|[.fel 203 [x] 0 0,.int .i64 i]=>some ⟨[0<=i,i<=1000000000000,0<=x.b9.v8,x.b9.v8<=6],[],.int .i64 (C2 x.b9 i)⟩|_=>none
def Ncb:Env:=Nci.B3 138 ccb
def Ncb_ok:c8 Ncb:=Nci_ok.B3 Tryz.call138 fun(args:List (SV U)) (q:Q1 U) (h:ccb args=some q) ho=>by
 unfold ccb at h;split at h
 . rename_i x i;cases h;exact I1 (an:=d0K 138) Nci_ok (inlHN_ok Nci_ok H0_ok d0K 2) Tryz.func138 (k:=.int .i64) (x:=C2 x.b9 i) trivial (kc (pcb x i ho.1 ho.2.1 ho.2.2.1 ho.2.2.2.1) (by kernel_rfl)) 0
 . cases h
def d2a:Nat->D3:=fun|196=>⟨68,nn,nn⟩|_=>⟨0,nn,nn⟩
def Vcl(x:Lk)(d:Dy)(n:Int)(Q:Bool->Prop):Prop:=
(bR (0<(↑(ix [x] 0).b9.q7.length:Int)) (Q (decide (wdS n=wdS (ix [x] 0).day))) ((bR ((ix [x] 0).b9.l6=0) ((bR ((↑(ix [x] 0).b9.Month.length:Int)=0/\d.Month≠(ix [x] 0).start.Day.Month) (Q false) (Q (decide (d.Date=(ix [x] 0).start.Day.Date))))) ((bR ((ix [x] 0).b9.l6=1) (Q (decide (d.Date=(ix [x] 0).start.Day.Date))) ((bR ((ix [x] 0).b9.l6=2) (Q (decide (wdS n=wdS (ix [x] 0).day))) (Q true))))))))
def pcl(x:Lk)(d:Dy)(n:Int)(hd:d=A7 n)(f0:0<=x.b9.l6):Vcl x d n (fun y0=>y0=decide (a1a x.start x.b9 x.day n)):=by
 unfold Vcl;have ex:ix [x] 0=x:=rfl;rw[ex];subst hd;refine⟨fun h=>d5N.2 (by unfold a1a;rw[if_pos h]),fun h=>?_⟩;have key:∀{p:Prop} [Decidable p],(p↔a1a x.start x.b9 x.day n)->decide p=decide (a1a x.start x.b9 x.day n):=fun h=>d5N.2 h;have e:a1a x.start x.b9 x.day n↔¬(((x.b9.l6<=1/\(A7 n).Date≠x.start.Day.Date)∨((x.b9.l6=0/\(x.b9.Month.length:Int)=0)/\(A7 n).Month≠x.start.Day.Month)))/\(x.b9.l6≠2∨wdS n=wdS x.day):=by unfold a1a;rw[if_neg h]
 refine⟨fun h0=>⟨fun hm=>(d5q fun hl=>(e.1 hl).1 (.inr ⟨⟨h0,hm.1⟩,hm.2⟩)).symm,fun hm=>key ?_⟩,fun h0=>⟨fun h1=>key ?_,fun h1=>⟨fun h2=>key ?_,fun h2=>(d5e (e.2 ⟨by omega,.inl h2⟩)).symm⟩⟩⟩
 . rw[e];exact⟨fun hh=>⟨fun ho=>by rcases ho with⟨_,ho⟩|⟨⟨_,a⟩,b⟩;exact ho hh;exact hm ⟨a,b⟩,.inl (by omega)⟩,fun hh=>d4S.1 fun ho=>hh.1 (.inl ⟨by omega,ho⟩)⟩
 . rw[e];exact⟨fun hh=>⟨fun ho=>by rcases ho with⟨_,ho⟩|⟨⟨a,_⟩,_⟩;exact ho hh;exact h0 a,.inl (by omega)⟩,fun hh=>d4S.1 fun ho=>hh.1 (.inl ⟨by omega,ho⟩)⟩
 . rw[e];exact⟨fun hh=>⟨by omega,.inr hh⟩,fun hh=>hh.2.resolve_left fun ho=>ho h2⟩
def d4n(x:Lk)(d:Dy)(n:Int):Q1 U:=⟨[d=A7 n,0<=x.b9.l6],[],I4 (decide (a1a x.start x.b9 x.day n))⟩
def ccl(a:List (SV U)):Option (Q1 U):=match a with|[.fel 203 [x] 0 0,.agg [.int .i64 d0,.int .i64 d1,.int .i64 d2],.int .i64 n]=>some (d4n x (⟨d0,d1,d2⟩) n)|_=>none
def Ncl:Env:=Ncb.B3 196 ccl
def Ncl_ok:c8 Ncl:=Ncb_ok.B3 Tryz.call196 fun(args:List (SV U)) (q:Q1 U) (h:ccl args=some q) ho=>by
 unfold ccl at h;split at h
 . rename_i x d0 d1 d2 n;cases h;exact I1 (an:=d2a 196) Ncb_ok (inlHN_ok Ncb_ok H0_ok d2a 2) Tryz.func196 (k:=.bool) (x:=decide (a1a x.start x.b9 x.day n)) trivial (kc (pcl x (⟨d0,d1,d2⟩) n ho.1 ho.2.1) (by kernel_rfl)) 0
 . cases h
def c6j:Env:=Ncl.z7 207 Tryz.f207
def NI207_ok:c8 c6j:=Ncl_ok.z7 Tryz.call207 Tryz.func207
def c5m:Env:=c6j.z7 228 Tryz.f228
def NI228_ok:c8 c5m:=NI207_ok.z7 Tryz.call228 Tryz.func228
def c62:Env:=c5m.z7 208 Tryz.f208
def NI208_ok:c8 c62:=NI228_ok.z7 Tryz.call208 Tryz.func208
def d1w:Nat->D3:=fun|195=>⟨55,nn,fun|4=>some ⟨[0,6],[.slot 9 (.int .i64),.slot 10 (.int .i64)]⟩|_=>none⟩|207=>⟨9,nn,nn⟩|228=>⟨19,fun|2=>some ⟨[0,1,7],[.slot 8 (.int .i64)]⟩|_=>none,nn⟩|208=>⟨28,nn,nn⟩|_=>⟨0,nn,nn⟩
def Vcw(x:Lk)(d:Dy)(n:Int)(lg:Int)(Q:Bool->Prop):Prop:=
∃(J:Int->Int->Prop),((bR ((ix [x] 0).b9.l6=1∨0<(↑(ix [x] 0).b9.Month.length:Int)) (J d.Date (E1 d.Year d.Month)) (J (ydS (Dy.mk d.Year d.Month d.Date)) lg)))/\∀(x_1 x_2:Int),J x_1 x_2->c6 (x_1-1)/\(7:Int)≠0/\c6 ((x_1-1).tdiv 7)/\c6 ((x_1-1).tdiv (7:Int)+1)/\c6 (x_2-x_1)/\(7:Int)≠0/\c6 ((x_2-x_1).tdiv 7)/\c6 ((x_2-x_1).tdiv (7:Int)+1)/\c6 ((0:Int)-((x_2-x_1).tdiv (7:Int)+1))/\∃(I:Int->Prop),∃(m:Int->Nat),I 0/\∀(x_3:Int),I x_3->(bR (x_3<(↑(ix [x] 0).b9.w9.length:Int)) (0<=x_3/\x_3<(↑(ix [x] 0).b9.w9.length:Int)/\(c6 (ix (ix [x] 0).b9.w9 x_3).N->c6 (ix (ix [x] 0).b9.w9 x_3).Day->(bR ((ix (ix [x] 0).b9.w9 x_3).Day=wdS n/\(((ix (ix [x] 0).b9.w9 x_3).N=0∨(ix (ix [x] 0).b9.w9 x_3).N=(x_1-1).tdiv (7:Int)+1)∨(ix (ix [x] 0).b9.w9 x_3).N=(0:Int)-((x_2-x_1).tdiv (7:Int)+1))) (Q (decide (0<=x_3))) (c6 (x_3+1)/\I (x_3+1)/\m (x_3+1)<m x_3)))) (Q (decide ((0:Int)<=(-1:Int)))))
def pcw(x:Lk)(d:Dy)(n:Int)(lg:Int)(hd:d=A7 n)(hlg:lg=ydS ⟨(A7 n).Year,12,31⟩)(hfw:F9 x.b9=true)(n0:1<=n)(n1:n<=3652059)(hR:N5 x.b9=true):Vcw x d n lg (fun y0=>y0=wdB x.b9 n):=by
 unfold Vcw;have ex:ix [x] 0=x:=rfl;rw[ex];subst hd hlg;rw[show Dy.mk (A7 n).Year (A7 n).Month (A7 n).Date=A7 n from rfl];obtain⟨wmo,wwn,wyd,wmd,wdy,who,wmi,wse,wsp,wti⟩:=fewR_ok hfw;refine⟨fun a b=>a=atW x.b9 n/\b=a5R x.b9 n,⟨fun h=>by unfold atW a5R;rw[if_pos h,if_pos h];exact⟨rfl,rfl⟩,fun h=>by unfold atW a5R;rw[if_neg h,if_neg h];exact⟨rfl,rfl⟩⟩,?_⟩;rintro _ _ ⟨rfl,rfl⟩;obtain⟨g1,g2,g3,g4⟩:=c8I x.b9 n;obtain⟨g5,g6⟩:=at_ok (r:=x.b9) n0 n1;have e1:(atW x.b9 n-1).tdiv 7=(atW x.b9 n-1) / 7:=d5b (by omega);have e2:(a5R x.b9 n-atW x.b9 n).tdiv 7=(a5R x.b9 n-atW x.b9 n) / 7:=d5b (by omega);rw[e1,e2];refine⟨⟨by omega,by omega⟩,by decide,⟨by omega,by omega⟩,⟨by omega,by omega⟩,⟨by omega,by omega⟩,by decide,⟨by omega,by omega⟩,⟨by omega,by omega⟩,⟨by omega,by omega⟩,?_⟩;have key:∀y:Nt,(y.Day=wdS n/\((y.N=0∨y.N=(atW x.b9 n-1) / 7+1)∨y.N=0-((a5R x.b9 n-atW x.b9 n) / 7+1)))↔WdP x.b9 n y:=fun y=>by unfold WdP;constructor <;> rintro⟨a,b⟩ <;> refine⟨a,?_⟩ <;> omega
 refine⟨fun i=>0<=i/\∀j:Int,0<=j->j<i->¬WdP x.b9 n (ix x.b9.w9 j),fun i=>((x.b9.w9.length:Int)-i).toNat,⟨by omega,fun j a b=>absurd b (by omega)⟩,?_⟩;rintro i ⟨i0,hi⟩;refine⟨fun h=>⟨i0,h,fun _ _=>⟨fun hy=>?_,fun hy=>⟨⟨by omega,by omega⟩,⟨by omega,fun j a b=>?_⟩,by dsimp only;omega⟩⟩⟩,fun h=>c8C fun j a b=>hi j a (by omega)⟩
 . rw[d5e i0];exact c4g i0 h ((key _).1 hy)
 . by_cases e:j=i
   . subst e;exact fun hw=>hy ((key _).2 hw)
   . exact hi j a (by omega)
def d3x(x:Lk)(d:Dy)(n:Int)(lg:Int):Q1 U:=⟨[d=A7 n,lg=ydS ⟨(A7 n).Year,12,31⟩,F9 x.b9=true,1<=n,n<=3652059,N5 x.b9=true],[],I4 (wdB x.b9 n)⟩
def ccw(a:List (SV U)):Option (Q1 U):=match a with|[.fel 203 [x] 0 0,.agg [.int .i64 d0,.int .i64 d1,.int .i64 d2],.int .i64 n,.int .i64 lg]=>some (d3x x (⟨d0,d1,d2⟩) n lg)|_=>none
def Ncw:Env:=c62.B3 195 ccw
def Ncw_ok:c8 Ncw:=NI208_ok.B3 Tryz.call195 fun(args:List (SV U)) (q:Q1 U) (h:ccw args=some q) ho=>by
 unfold ccw at h;split at h
 . rename_i x d0 d1 d2 n lg;cases h;exact I1 (an:=d1w 195) NI208_ok (inlHN_ok NI208_ok H0_ok d1w 4) Tryz.func195 (k:=.bool) (x:=wdB x.b9 n) trivial (kc (pcw x (⟨d0,d1,d2⟩) n lg ho.1 ho.2.1 ho.2.2.1 ho.2.2.2.1 ho.2.2.2.2.1 ho.2.2.2.2.2.1) (by kernel_rfl)) 0
 . cases h
def d2N:Nat->D3:=fun|172=>⟨141,nn,fun|9=>some ⟨[0,1,5,7],[.slot 8 (.int .i64)]⟩|11=>some ⟨[0,1,5],[]⟩|_=>none⟩|_=>⟨0,nn,nn⟩
def Vcd(x:Lk)(n:Int)(Q:Bool->Prop):Prop:=
(0<(↑(ix [x] 0).b9.Month.length:Int)->(ix [x] 0).b9.Month.length<=1000000)/\(bR (0<(↑(ix [x] 0).b9.Month.length:Int)/\¬M4 (ix [x] 0).b9.Month (A7 n).Month=true) (Q false) (∃(J:Prop),((bR (0<(↑(ix [x] 0).b9.q7.length:Int)) (∃(J_1:Int->Prop),((bR (a0g (R3 n (ix [x] 0).b9.v8).fst (ix [x] 0).b9.v8=0) (J_1 1) (J_1 (a0g (R3 n (ix [x] 0).b9.v8).fst (ix [x] 0).b9.v8))))/\∀(x_1:Int),J_1 x_1->(ix [x] 0).b9.q7.length<=1000000/\(-10000000:Int)<=(R3 n (ix [x] 0).b9.v8).snd/\(R3 n (ix [x] 0).b9.v8).snd<=10000000/\(-10000000:Int)<=x_1/\x_1<=10000000/\(bR (¬Re.a3L (ix [x] 0).b9.q7 (R3 n (ix [x] 0).b9.v8).snd x_1=true) (Q false) J)) J))/\(J->((0<(↑(ix [x] 0).b9.l9.length:Int)->(ix [x] 0).b9.l9.length<=1000000)/\(0<(↑(ix [x] 0).b9.l9.length:Int)->(-10000000:Int)<=ydS (Dy.mk (A7 n).Year (A7 n).Month (A7 n).Date))/\(0<(↑(ix [x] 0).b9.l9.length:Int)->ydS (Dy.mk (A7 n).Year (A7 n).Month (A7 n).Date)<=10000000)/\(0<(↑(ix [x] 0).b9.l9.length:Int)->(-10000000:Int)<=ydS (Dy.mk (A7 n).Year 12 31))/\(0<(↑(ix [x] 0).b9.l9.length:Int)->ydS (Dy.mk (A7 n).Year 12 31)<=10000000))/\(bR (0<(↑(ix [x] 0).b9.l9.length:Int)/\¬Re.a3L (ix [x] 0).b9.l9 (ydS (Dy.mk (A7 n).Year (A7 n).Month (A7 n).Date)) (ydS (Dy.mk (A7 n).Year 12 31))=true) (Q false) (((0<(↑(ix [x] 0).b9.j9.length:Int)->(ix [x] 0).b9.j9.length<=1000000)/\(0<(↑(ix [x] 0).b9.j9.length:Int)->(-10000000:Int)<=(A7 n).Date)/\(0<(↑(ix [x] 0).b9.j9.length:Int)->(A7 n).Date<=10000000)/\(0<(↑(ix [x] 0).b9.j9.length:Int)->(-10000000:Int)<=E1 (A7 n).Year (A7 n).Month)/\(0<(↑(ix [x] 0).b9.j9.length:Int)->E1 (A7 n).Year (A7 n).Month<=10000000))/\(bR (0<(↑(ix [x] 0).b9.j9.length:Int)/\¬Re.a3L (ix [x] 0).b9.j9 (A7 n).Date (E1 (A7 n).Year (A7 n).Month)=true) (Q false) ((bR (0<(↑(ix [x] 0).b9.w9.length:Int)) (Dy.mk (A7 n).Year (A7 n).Month (A7 n).Date=A7 n/\ydS (Dy.mk (A7 n).Year 12 31)=ydS (Dy.mk (A7 n).Year 12 31)/\F9 x.b9=true/\1<=n/\n<=3652059/\N5 x.b9=true/\Q (decide (wdB x.b9 n=true))) (c6 ((↑(ix [x] 0).b9.l9.length:Int)+(↑(ix [x] 0).b9.j9.length:Int))/\(bR (0<(↑(ix [x] 0).b9.l9.length:Int)+(↑(ix [x] 0).b9.j9.length:Int)) (Q true) (Dy.mk (A7 n).Year (A7 n).Month (A7 n).Date=A7 n/\0<=x.b9.l6/\Q (decide (decide (a1a x.start x.b9 x.day n)=true)))))))))))))
def pcd(x:Lk)(n:Int)(hfw:F9 x.b9=true)(n0:1<=n)(n1:n<=3652059)(hR:N5 x.b9=true):Vcd x n (fun y0=>y0=a3K x.start x.b9 x.day n):=by
 unfold Vcd;have ex:ix [x] 0=x:=rfl;rw[ex];rw[show Dy.mk (A7 n).Year (A7 n).Month (A7 n).Date=A7 n from rfl];obtain⟨wmo,wwn,wyd,wmd,wdy,who,wmi,wse,wsp,wti⟩:=fewR_ok hfw;have k1:=c9C n x.b9.v8;have k2:=c8u (R3 n x.b9.v8).1 x.b9.v8;have k3:=b6L (A7 n);have k4:=b6L ⟨(A7 n).Year,12,31⟩;have k5:=b69 (A7 n).Year (A7 n).Month;obtain⟨_,_,k6⟩:=b6l n;refine⟨fun _=>by omega,fun h=>d2k (c8d h),fun hm=>?_⟩;have hm:=c3w hm;refine⟨wkB x.b9 n=true,⟨fun hl=>⟨fun w=>w=a2C (R3 n x.b9.v8).1 x.b9.v8,⟨fun h=>by unfold a2C;rw[if_pos h],fun h=>by unfold a2C;rw[if_neg h]⟩,?_⟩,fun hl=>a4F fun h=>hl h.1⟩,fun hw=>?_⟩
 . rintro _ rfl;exact⟨by omega,by omega,by omega,by omega,by omega,fun h=>c96 (b13 ⟨hl,h⟩),fun h=>a4F fun hh=>h hh.2⟩
 refine⟨⟨fun _=>by omega,fun _=>by omega,fun _=>by omega,fun _=>by omega,fun _=>by omega⟩,fun h=>c90 (b13 h),fun hy=>?_⟩;refine⟨⟨fun _=>by omega,fun _=>by omega,fun _=>by omega,fun _=>by omega,fun _=>by omega⟩,fun h=>d2M (b13 h),fun hd=>?_⟩;rw[c3k hm hw (a4F hy) (a4F hd)];unfold b9N;refine⟨fun h=>⟨rfl,rfl,hfw,n0,n1,hR,by rw[if_pos h,d4Z]⟩,fun h=>⟨⟨by omega,by omega⟩,fun h2=>by rw[if_neg h,if_pos (by omega)],fun h2=>⟨rfl,(s7.1 hR).head.1,by rw[if_neg h,if_neg (by omega),d4Z]⟩⟩⟩
def ccd(a:List (SV U)):Option (Q1 U):=match a with|[.fel 203 [x] 0 0,.int .i64 n]=>some ⟨[F9 x.b9=true,1<=n,n<=3652059,N5 x.b9=true],[],I4 (a3K x.start x.b9 x.day n)⟩|_=>none
def Ncd:Env:=Ncw.B3 172 ccd
def Ncd_ok:c8 Ncd:=Ncw_ok.B3 Tryz.call172 fun(args:List (SV U)) (q:Q1 U) (h:ccd args=some q) ho=>by
 unfold ccd at h;split at h
 . rename_i x n;cases h;exact I1 (an:=d2N 172) Ncw_ok (inlHN_ok Ncw_ok H0_ok d2N 2) Tryz.func172 (k:=.bool) (x:=a3K x.start x.b9 x.day n) trivial (kc (pcd x n ho.1 ho.2.1 ho.2.2.1 ho.2.2.2.1) (by kernel_rfl)) 0
 . cases h
end Go.Proofs.YtapnoejokajcoaaGreatDoor
section
namespace Go.Proofs.YtapnoejokajcoaaGreatDoor
open Go Go.Wk Go.Wl Go.Rx Go.Re Go.Li Go.Qu 
attribute [local irreducible] j4
def b4x:Nat->D3:=fun|198=>⟨34,fun|7=>some ⟨[9,24],[.slot 25 (.int .i64),.cont 9 3]⟩|_=>none,nn⟩|_=>⟨0,nn,nn⟩
def Vcp(l:List Int)(fr:Bool)(o:Int)(a:Int)(Q:List Int->Prop):Prop:=
(bR (0<(↑l.length:Int)) (Q l) ((bR (¬fr=true) (Q [o]) (0<=a/\a=a/\(↑((some (8:Nat)).getD (0:Nat)):Int)*a<=140737488355328/\∃(I:Int->List Int->Prop),∃(m:Int->List Int->Nat),I 0 (List.replicate a.toNat (0:Int))/\∀(x:Int)(x_1:List Int),I x x_1->(bR (x<(↑(List.replicate a.toNat (0:Int)).length:Int)) (0<=x/\x<(↑x_1.length:Int)/\c6 (x+1)/\I (x+1) (x_1.set x.toNat x)/\m (x+1) (x_1.set x.toNat x)<m x x_1) (Q x_1))))))
def Wcp(l:List Int)(fr:Bool)(o:Int)(a:Int)(Q:List Int->Prop):Prop:=j4 (E:=Ncd) (a1G Ncd H0 b4x 2) (b4x 198) Tryz.f198 [.sl (N:=U) 3 l,I4 fr,.int .i64 o,.int .i64 a] [] [] 0 (c4o Ncd 1 [.sl 3] Q)
attribute [local irreducible] Wcp HZ
def c8j{l:List Int}{fr:Bool}{o:Int}{a:Int}{Q:List Int->Prop}:Vcp l fr o a Q=Wcp l fr o a Q:=by kernel_rfl
def Vcp_ok{l:List Int}{fr:Bool}{o:Int}{a:Int}{Q:List Int->Prop}(h:Vcp l fr o a Q):Wcp l fr o a Q:=by rw[<- c8j];exact h
def pcp(l:List Int)(fr:Bool)(o:Int)(a:Int)(ha0:0<=a)(ha1:a<=100):Vcp l fr o a (fun y0=>y0=n9 l fr o a):=by
 have a0:=ha0;have a1:=ha1;unfold Vcp n9;refine⟨fun h=>by rw[if_pos h],fun h=>?_⟩;rw[if_neg h];refine⟨fun h=>by rw[if_neg h],fun h=>?_⟩;rw[if_pos (d4S.1 h)];have el:((List.replicate a.toNat (0:Int)).length:Int)=a:=by rw[d6c];omega
 refine⟨a0,rfl,by show(8:Int)*a<=140737488355328;omega,fun i x=>a9b a.toNat x i,fun i _=>(a-i).toNat,⟨d5o 0,by omega,d6c,fun j hj=>by omega⟩,?_⟩;rintro i x hI;have ha:=hI.a;have hc:=hI.c;refine⟨fun hi=>⟨ha,by omega,⟨by omega,by omega⟩,hI.step (by omega),by dsimp only;omega⟩,fun hi=>hI.fin (by omega)⟩
def c8v{l:List Int}{fr:Bool}{o:Int}{a:Int}:Wcp l fr o a (fun y0=>y0=n9 l fr o a)=HZ Ncd (a1G Ncd H0 b4x 2) (b4x 198) Tryz.f198 [.sl (N:=U) 3 l,I4 fr,.int .i64 o,.int .i64 a] 1 [.sl 3] (n9 l fr o a,()):=by kernel_rfl
def Ycp_ok(l:List Int)(fr:Bool)(o:Int)(a:Int)(ha0:0<=a)(ha1:a<=100):HZ Ncd (a1G Ncd H0 b4x 2) (b4x 198) Tryz.f198 [.sl (N:=U) 3 l,I4 fr,.int .i64 o,.int .i64 a] 1 [.sl 3] (n9 l fr o a,()):=by rw[<- c8v];exact Vcp_ok (pcp l fr o a ha0 ha1)
def c74(l:List Int)(fr:Bool)(o:Int)(a:Int):CR U:=⟨[0<=a,a<=100],[],.sl 3 (n9 l fr o a),[]⟩
def c49(l:List Int)(fr:Bool)(o:Int)(a:Int):(⟨[0<=a,a<=100],[],a9g 1 (tell Ncd [.sl 3] (n9 l fr o a,())),[]⟩:CR Ncd.N)=c74 l fr o a:=by kernel_rfl
def ccpr_ok(l:List Int)(fr:Bool)(o:Int)(a:Int)(ha0:0<=a)(ha1:a<=100)(nx:Nat)(hp:([.sl (N:=U) 3 l,I4 fr,.int .i64 o,.int .i64 a]:List (SV U)).all F7=true):P8 Ncd.P Ncd.N Ncd.T Ncd.G 198 [.sl (N:=U) 3 l,I4 fr,.int .i64 o,.int .i64 a] nx (c74 l fr o a):=by rw[<- c49];exact d4k Ncd_ok (inlHN_ok Ncd_ok H0_ok b4x 2) Tryz.func198 rfl hp (Ycp_ok l fr o a ha0 ha1)
def ccp(a:List (SV U))(nx:Nat):Option (CR U):=match a with|[.sl 3 l,x_fr,.int .i64 o,.int .i64 a]=>(b07 x_fr).bind fun fr=>some (c74 l fr o a)|_=>none
def Ncp:Env:=Ncd.a0K 198 ccp
def Ncp_ok:c8 Ncp:=Ncd_ok.a0K Tryz.call198 fun(args:List (SV U)) nx (c:CR U) (h:ccp args nx=some c) hp ho=>by
 unfold ccp at h;split at h
 . rename_i l x_fr o a;obtain⟨fr,hb_fr,h⟩:=d5j.1 h;cases h;exact P8.a3O (b:=[.sl (N:=U) 3 l,I4 fr,.int .i64 o,.int .i64 a]) (ccpr_ok l fr o a ho.1 ho.2.1 nx rfl) fun ρ Z w v hr=>O3 [.sl 3 l,x_fr,.int .i64 o,.int .i64 a] [.sl (N:=U) 3 l,I4 fr,.int .i64 o,.int .i64 a] _ ⟨fun _ h=>h,fun _ h=>a3M (E:=Ncd) hb_fr h,fun _ h=>h,fun _ h=>h,trivial⟩ hr
 . cases h
end Go.Proofs.YtapnoejokajcoaaGreatDoor
end
namespace Go.Proofs.YtapnoejokajcoaaGreatDoor
open Go Go.Wk Go.Wl Go.Rx Go.Re Go.Li Go.Qu 
attribute [local irreducible] j4
def c9Q:Nat->D3:=fun|97=>⟨8,nn,nn⟩|_=>⟨0,nn,nn⟩
def Vct(e:o6)(Q:o6->Prop):Prop:=
(bR (e.is 5) (Q (o6.no 5)) (Q e))
def pct(e:o6)(he:e.is 5∨e=o6.nil):Vct e (fun y0=>y0=P3 e):=by unfold Vct P3;exact⟨fun h=>by rw[if_pos h],fun h=>by rw[if_neg h];exact he.resolve_left h⟩
def Nct:Env:=Ncp.kL 97 (rE.c .n) (.err) (fun y=>[y.1.is 5∨y.1=o6.nil]) (fun y=>P3 y.1)
def Nct_ok:c8 Nct:=Ncp_ok.kL Tryz.call97 Tryz.func97 (inlHN_ok Ncp_ok H0_ok c9Q 2) (an:=c9Q 97) (fun y ho=>(b5g _)) fun y ho=>kc (pct y.1 ho.1) (by kernel_rfl)
def d0L:Nat->D3:=fun|174=>⟨18,nn,nn⟩|_=>⟨0,nn,nn⟩
def Vc2(l:List Int)(n:Int)(a:Int)(Q:Bool->Prop):Prop:=
l.length<=1000000/\(¬M4 l n=true->c6 (n-a))/\(¬M4 l n=true->c6 (n-a-1))/\(¬M4 l n=true->l.length<=1000000)/\Q (decide (M4 l n=true∨M4 l (n-a-1)=true))
def pc2(l:List Int)(n:Int)(a:Int)(hl:l.length<=1000000)(n0:-1000000000000000<=n)(n1:n<=1000000000000000)(a0:-1000000000000000<=a)(a1:a<=1000000000000000):Vc2 l n a (fun y0=>y0=Re.a3L l n a):=by unfold Vc2 Re.a3L;refine⟨hl,fun _=>⟨by omega,by omega⟩,fun _=>⟨by omega,by omega⟩,fun _=>hl,c1p ?_⟩;rw[d5V]
def Nc2:Env:=Nct.kL 174 ((rL 3).c (rI.c (rI.c .n))) (.bool) (fun y=>[List.length (α:=Int) y.1<=1000000,-1000000000000000<=y.2.1,y.2.1<=1000000000000000,-1000000000000000<=y.2.2.1,y.2.2.1<=1000000000000000]) (fun y=>Re.a3L y.1 y.2.1 y.2.2.1)
def Nc2_ok:c8 Nc2:=Nct_ok.kL Tryz.call174 Tryz.func174 (inlHN_ok Nct_ok H0_ok d0L 2) (an:=d0L 174) (fun _ _=>trivial) fun y ho=>kc (pc2 y.1 y.2.1 y.2.2.1 ho.1 ho.2.1 ho.2.2.1 ho.2.2.2.1 ho.2.2.2.2.1) (by kernel_rfl)
end Go.Proofs.YtapnoejokajcoaaGreatDoor
namespace Go.Rx
open Go Go.Wk Go.Wl
section
variable{E:Env}{t:Nat}{inl:Inl E}{an:D3}
def c2m(E:Env){t:Nat}(y:TyI E.N E.T t)(Q:E.N.U t->Prop):E.SV->c7 E.N->Nat->Prop:=fun v its _=>match v with
 |.ref id off=>bif Nat.beq off 0 then(match lk its id with
  |some (.own T cells)=>bif Nat.beq T t then(match y.bk (.agg cells)with|some x=>Q x|none=>False)else False
  |_=>False)else False
 |_=>False
def c3E{fn:Func}{K nx:Nat}{args:List E.SV}{x:E.N.U t}{ob:List Prop}(hE:c8 E)(hI:H6 E inl)(hf:E.P.funcs[K]?=some fn)(y:TyI E.N E.T t)(hp:args.all F7=true)(hv:j4 inl an fn args [] [] 0 (c2m E y (fun z=>z=x))):P8 E.P E.N E.T E.G K args nx ⟨ob,[],.fel t [x] 0 0,[]⟩:=
 ⟨fun ρ Z w vs hfr hz hg ha=>(vcFun_ok (C:=a4S (fun _=>none) Z w) hE hI hf hv (b35 (fun _ _=>rfl) hz) hg (L0 hp ha _)).mono fun v w' h=>by
  obtain⟨ρ',Z',s,its',nx',hx,hm,ht,hr,hk⟩:=h.pure;unfold c2m at hk;split at hk
  . rename_i id off;have h1:=(a0Z hk).1
    replace hk:=(a0Z hk).2
    have h1:=d4W h1;subst h1;split at hk
    . rename_i T cells hl;have h2:=(a0Z hk).1
      replace hk:=(a0Z hk).2
      have h2:=d4W h2;subst h2;split at hk
      . rename_i x' hbk;subst hk;obtain⟨j,hj,_⟩:=x8 hl;obtain⟨L,cs,hL,hbs,ho,hrep⟩:=hm.holds hj;have hL:ρ' id=some L:=hL;have hb:L.b∈u4 E.N ρ' id (.own T cells):=by rw[u6 hL,hbs];exact d5a.2 rfl
        have ok:=hm.okp (d5c hj);have hrd:=y.bk_ok (s:=.agg cells) hrep hbk;have hv:v=.pointer (some ⟨L.b,0,none⟩):=by cases hr with|ref hL'=>simp_all
        have hZ:∀b,Z' b->b<w'.heap.size->(fun k=>Z' k∨k=L.b) b:=fun b h _=>.inl h;have hrow:=c4b (D:=fun k=>Z' k∨k=L.b) ho (.inr rfl) (Rd.a3O _ hrd hZ);refine⟨ρ,fun k=>Z' k∨k=L.b,fun _ _ h=>h,hfr,fun b hb=>.inl (hm.zge b hb),fun b hb=>?_,?_,⟨hx,fun b hb=>?_,fun k t h=>by simp[u7,number]at h,fun j k s t h=>by simp[u7,number]at h⟩,trivial⟩
        . rcases hb with hb|rfl
          . rcases hm.zle b hb with h|h|h
            . exact .inl h
            . cases h
            . exact .inr h
          . rcases ok.org _ hb with h|h
            . cases h
            . exact .inr h
        . have:=e7.fel (N:=E.N) (T:=E.T) (ρ:=ρ) (t:=T) (off:=0) hrow (i:=0) (by omega) (by simp_all);have e:eA (some ⟨L.b,0,none⟩) (Int.toNat 0*(E.N.tb T).r.sz+0)=⟨L.b,0,none⟩:=by simp[eA,Addr.add]
          simp_all
        . rcases hb with hb|rfl
          . exact hm.sep.zlt b hb
          . exact ok.lt _ hb
      simp_all
    simp_all
  simp_all⟩
end
end Go.Rx
namespace Go.Proofs.YtapnoejokajcoaaGreatDoor
open Go Go.Wk Go.Wl Go.Rx Go.Re Go.Li Go.Qu 
def e5:True:=trivial
attribute [local irreducible] j4
def c0W:Nat->D3:=fun|95=>⟨12,nn,nn⟩|_=>⟨0,nn,nn⟩
def Vlo(s:Tm)(r:Rl)(Q:Lk->Prop):Prop:=
Q (Lk.mk (Rl.mk r.l6 r.Interval r.Count r.e9 r.Month r.q7 r.l9 r.j9 r.w9 r.Hour r.Minute r.Second r.y6 r.v8) (Tm.mk (Dy.mk s.Day.Year s.Day.Month s.Day.Date) s.Hour s.Min s.D8 (decide (s.o7=true)) (decide (s.UTC=true))) (u9 (Dy.mk s.Day.Year s.Day.Month s.Day.Date)))
def c6z{s:Tm}{r:Rl}{Q:Lk->Prop}:@Eq Prop (Vlo s r Q) (j4 (E:=Nc2) (a1G Nc2 H0 c0W 2) (c0W 95) Tryz.f95 [.agg [.int .i64 s.Day.Year,.int .i64 s.Day.Month,.int .i64 s.Day.Date,.int .i64 s.Hour,.int .i64 s.Min,.int .i64 s.D8,I4 s.o7,I4 s.UTC],.agg [.int .i64 r.l6,.int .i64 r.Interval,.int .i64 r.Count,.sl (N:=U) 26 r.e9,.sl (N:=U) 3 r.Month,.sl (N:=U) 3 r.q7,.sl (N:=U) 3 r.l9,.sl (N:=U) 3 r.j9,.sl (N:=U) 240 r.w9,.sl (N:=U) 3 r.Hour,.sl (N:=U) 3 r.Minute,.sl (N:=U) 3 r.Second,.sl (N:=U) 3 r.y6,.int .i64 r.v8]] [] [] 0 (c2m Nc2 c3g Q)):=by kernel_rfl
def Vlo_ok{s:Tm}{r:Rl}{Q:Lk->Prop}(h:Vlo s r Q):j4 (E:=Nc2) (a1G Nc2 H0 c0W 2) (c0W 95) Tryz.f95 [.agg [.int .i64 s.Day.Year,.int .i64 s.Day.Month,.int .i64 s.Day.Date,.int .i64 s.Hour,.int .i64 s.Min,.int .i64 s.D8,I4 s.o7,I4 s.UTC],.agg [.int .i64 r.l6,.int .i64 r.Interval,.int .i64 r.Count,.sl (N:=U) 26 r.e9,.sl (N:=U) 3 r.Month,.sl (N:=U) 3 r.q7,.sl (N:=U) 3 r.l9,.sl (N:=U) 3 r.j9,.sl (N:=U) 240 r.w9,.sl (N:=U) 3 r.Hour,.sl (N:=U) 3 r.Minute,.sl (N:=U) 3 r.Second,.sl (N:=U) 3 r.y6,.int .i64 r.v8]] [] [] 0 (c2m Nc2 c3g Q):=by rw[<- c6z];exact h
def plo(s:Tm)(r:Rl):Vlo s r (fun z=>z=⟨r,s,u9 s.Day⟩):=by unfold Vlo;simp only[d4Z]
def clo(a:List (SV U))(nx:Nat):Option (CR U):=match a with|[.agg l_s,.agg l_r]=>(y26.bk (.agg l_s)).bind fun s=>(y64.bk (.agg l_r)).bind fun r=>some ⟨[],[],.fel 203 [⟨r,s,u9 s.Day⟩] 0 0,[]⟩|_=>none
def Nlo:Env:=Nc2.a0K 95 clo
def Nlo_ok:c8 Nlo:=Nc2_ok.a0K Tryz.call95 fun(args:List (SV U)) nx (c:CR U) (h:clo args nx=some c) hp ho=>by
 unfold clo at h;split at h
 . rename_i l_s l_r;obtain⟨s,hb_s,h⟩:=d5j.1 h;obtain⟨r,hb_r,h⟩:=d5j.1 h;cases h;exact P8.a3O (b:=[.agg [.int .i64 s.Day.Year,.int .i64 s.Day.Month,.int .i64 s.Day.Date,.int .i64 s.Hour,.int .i64 s.Min,.int .i64 s.D8,I4 s.o7,I4 s.UTC],.agg [.int .i64 r.l6,.int .i64 r.Interval,.int .i64 r.Count,.sl (N:=U) 26 r.e9,.sl (N:=U) 3 r.Month,.sl (N:=U) 3 r.q7,.sl (N:=U) 3 r.l9,.sl (N:=U) 3 r.j9,.sl (N:=U) 240 r.w9,.sl (N:=U) 3 r.Hour,.sl (N:=U) 3 r.Minute,.sl (N:=U) 3 r.Second,.sl (N:=U) 3 r.y6,.int .i64 r.v8]]) (c3E Nc2_ok ((inlHN_ok Nc2_ok H0_ok c0W 2)) Tryz.func95 c3g rfl (Vlo_ok (plo s r))) fun ρ Z w v hr=>O3 [.agg l_s,.agg l_r] [.agg [.int .i64 s.Day.Year,.int .i64 s.Day.Month,.int .i64 s.Day.Date,.int .i64 s.Hour,.int .i64 s.Min,.int .i64 s.D8,I4 s.o7,I4 s.UTC],.agg [.int .i64 r.l6,.int .i64 r.Interval,.int .i64 r.Count,.sl 26 r.e9,.sl 3 r.Month,.sl 3 r.q7,.sl 3 r.l9,.sl 3 r.j9,.sl 240 r.w9,.sl 3 r.Hour,.sl 3 r.Minute,.sl 3 r.Second,.sl 3 r.y6,.int .i64 r.v8]] _ ⟨fun _ h=>a1r hb_s h,fun _ h=>a6R hb_r h,trivial⟩ hr
 . cases h
def N3:Env:=Nlo.z7 173 Tryz.f173
def NI173_ok:c8 N3:=Nlo_ok.z7 Tryz.call173 Tryz.func173
def c19:Nat->D3:=fun|197=>⟨128,fun|1=>some ⟨[0,1,2,3,29,30],[.slot 31 (.int .i64),.ob 0 0]⟩|5=>some ⟨[0,1,2,3,6,29,30,31,62,63],[.slot 64 (.int .i64),.ob 0 0]⟩|10=>some ⟨[0,1,2,3,6,8,29,30,31,62,63,64,98,99],[.slot 100 (.int .i64),.ob 0 0]⟩|_=>none,nn⟩|_=>⟨0,nn,nn⟩
def Vck(x:ClX Tryz.prog)(l:Lk)(fr tw:Int)(Q:ClX Tryz.prog->Prop):Prop:=
((0:Int)<=24/\(24:Int)<=100)/\∃(I:Int->Cl Proofs.Tryz.prog×List Int->Prop),∃(m:Int->Cl Proofs.Tryz.prog×List Int->Nat),I 0 x/\∀(x:Int)(x_1:Cl Proofs.Tryz.prog×List Int),I x x_1->(bR (x<(↑(n9 (ix [l] 0).b9.Hour (decide (3<(ix [l] 0).b9.l6)) (ix [l] 0).start.Hour 24).length:Int)) (0<=x/\x<(↑(n9 (ix [l] 0).b9.Hour (decide (3<(ix [l] 0).b9.l6)) (ix [l] 0).start.Hour 24).length:Int)/\(c6 (ix (n9 (ix [l] 0).b9.Hour (decide (3<(ix [l] 0).b9.l6)) (ix [l] 0).start.Hour 24) x)->c6 (ix (n9 (ix [l] 0).b9.Hour (decide (3<(ix [l] 0).b9.l6)) (ix [l] 0).start.Hour 24) x*3600)/\c6 (ix (n9 (ix [l] 0).b9.Hour (decide (3<(ix [l] 0).b9.l6)) (ix [l] 0).start.Hour 24) x*3600+3599)/\(¬ix (n9 (ix [l] 0).b9.Hour (decide (3<(ix [l] 0).b9.l6)) (ix [l] 0).start.Hour 24) x*3600+3599<fr->c6 (ix (n9 (ix [l] 0).b9.Hour (decide (3<(ix [l] 0).b9.l6)) (ix [l] 0).start.Hour 24) x*3600))/\(bR (ix (n9 (ix [l] 0).b9.Hour (decide (3<(ix [l] 0).b9.l6)) (ix [l] 0).start.Hour 24) x*3600+3599<fr∨tw<=ix (n9 (ix [l] 0).b9.Hour (decide (3<(ix [l] 0).b9.l6)) (ix [l] 0).start.Hour 24) x*3600) (c6 (x+1)/\I (x+1) x_1/\m (x+1) x_1<m x x_1) (((0:Int)<=60/\(60:Int)<=100)/\∃(I_1:Int->Cl Proofs.Tryz.prog×List Int->Prop),∃(m_1:Int->Cl Proofs.Tryz.prog×List Int->Nat),I_1 0 x_1/\∀(x_2:Int)(x_3:Cl Proofs.Tryz.prog×List Int),I_1 x_2 x_3->(bR (x_2<(↑(n9 (ix [l] 0).b9.Minute (decide (4<(ix [l] 0).b9.l6)) (ix [l] 0).start.Min 60).length:Int)) (0<=x_2/\x_2<(↑(n9 (ix [l] 0).b9.Minute (decide (4<(ix [l] 0).b9.l6)) (ix [l] 0).start.Min 60).length:Int)/\(c6 (ix (n9 (ix [l] 0).b9.Minute (decide (4<(ix [l] 0).b9.l6)) (ix [l] 0).start.Min 60) x_2)->c6 (ix (n9 (ix [l] 0).b9.Hour (decide (3<(ix [l] 0).b9.l6)) (ix [l] 0).start.Hour 24) x*3600)/\c6 (ix (n9 (ix [l] 0).b9.Minute (decide (4<(ix [l] 0).b9.l6)) (ix [l] 0).start.Min 60) x_2*60)/\c6 (ix (n9 (ix [l] 0).b9.Hour (decide (3<(ix [l] 0).b9.l6)) (ix [l] 0).start.Hour 24) x*3600+ix (n9 (ix [l] 0).b9.Minute (decide (4<(ix [l] 0).b9.l6)) (ix [l] 0).start.Min 60) x_2*60)/\c6 (ix (n9 (ix [l] 0).b9.Hour (decide (3<(ix [l] 0).b9.l6)) (ix [l] 0).start.Hour 24) x*3600+ix (n9 (ix [l] 0).b9.Minute (decide (4<(ix [l] 0).b9.l6)) (ix [l] 0).start.Min 60) x_2*60+59)/\(bR (ix (n9 (ix [l] 0).b9.Hour (decide (3<(ix [l] 0).b9.l6)) (ix [l] 0).start.Hour 24) x*3600+ix (n9 (ix [l] 0).b9.Minute (decide (4<(ix [l] 0).b9.l6)) (ix [l] 0).start.Min 60) x_2*60+59<fr∨tw<=ix (n9 (ix [l] 0).b9.Hour (decide (3<(ix [l] 0).b9.l6)) (ix [l] 0).start.Hour 24) x*3600+ix (n9 (ix [l] 0).b9.Minute (decide (4<(ix [l] 0).b9.l6)) (ix [l] 0).start.Min 60) x_2*60) (c6 (x_2+1)/\I_1 (x_2+1) x_3/\m_1 (x_2+1) x_3<m_1 x_2 x_3) (((0:Int)<=60/\(60:Int)<=100)/\∃(I:Int->Cl Proofs.Tryz.prog×List Int->Prop),∃(m:Int->Cl Proofs.Tryz.prog×List Int->Nat),I 0 x_3/\∀(x_4:Int)(x_5:Cl Proofs.Tryz.prog×List Int),I x_4 x_5->(bR (x_4<(↑(n9 (ix [l] 0).b9.Second (decide (5<(ix [l] 0).b9.l6)) (ix [l] 0).start.D8 60).length:Int)) (0<=x_4/\x_4<(↑(n9 (ix [l] 0).b9.Second (decide (5<(ix [l] 0).b9.l6)) (ix [l] 0).start.D8 60).length:Int)/\(c6 (ix (n9 (ix [l] 0).b9.Second (decide (5<(ix [l] 0).b9.l6)) (ix [l] 0).start.D8 60) x_4)->c6 (ix (n9 (ix [l] 0).b9.Hour (decide (3<(ix [l] 0).b9.l6)) (ix [l] 0).start.Hour 24) x*3600)/\c6 (ix (n9 (ix [l] 0).b9.Minute (decide (4<(ix [l] 0).b9.l6)) (ix [l] 0).start.Min 60) x_2*60)/\c6 (ix (n9 (ix [l] 0).b9.Hour (decide (3<(ix [l] 0).b9.l6)) (ix [l] 0).start.Hour 24) x*3600+ix (n9 (ix [l] 0).b9.Minute (decide (4<(ix [l] 0).b9.l6)) (ix [l] 0).start.Min 60) x_2*60)/\c6 (ix (n9 (ix [l] 0).b9.Hour (decide (3<(ix [l] 0).b9.l6)) (ix [l] 0).start.Hour 24) x*3600+ix (n9 (ix [l] 0).b9.Minute (decide (4<(ix [l] 0).b9.l6)) (ix [l] 0).start.Min 60) x_2*60+ix (n9 (ix [l] 0).b9.Second (decide (5<(ix [l] 0).b9.l6)) (ix [l] 0).start.D8 60) x_4)/\(bR (fr<=ix (n9 (ix [l] 0).b9.Hour (decide (3<(ix [l] 0).b9.l6)) (ix [l] 0).start.Hour 24) x*3600+ix (n9 (ix [l] 0).b9.Minute (decide (4<(ix [l] 0).b9.l6)) (ix [l] 0).start.Min 60) x_2*60+ix (n9 (ix [l] 0).b9.Second (decide (5<(ix [l] 0).b9.l6)) (ix [l] 0).start.D8 60) x_4/\ix (n9 (ix [l] 0).b9.Hour (decide (3<(ix [l] 0).b9.l6)) (ix [l] 0).start.Hour 24) x*3600+ix (n9 (ix [l] 0).b9.Minute (decide (4<(ix [l] 0).b9.l6)) (ix [l] 0).start.Min 60) x_2*60+ix (n9 (ix [l] 0).b9.Second (decide (5<(ix [l] 0).b9.l6)) (ix [l] 0).start.D8 60) x_4<tw) (ClX.pre x_5 (ix (n9 (ix [l] 0).b9.Hour (decide (3<(ix [l] 0).b9.l6)) (ix [l] 0).start.Hour 24) x*3600+ix (n9 (ix [l] 0).b9.Minute (decide (4<(ix [l] 0).b9.l6)) (ix [l] 0).start.Min 60) x_2*60+ix (n9 (ix [l] 0).b9.Second (decide (5<(ix [l] 0).b9.l6)) (ix [l] 0).start.D8 60) x_4)/\(bR (¬ClX.res x_5 (ix (n9 (ix [l] 0).b9.Hour (decide (3<(ix [l] 0).b9.l6)) (ix [l] 0).start.Hour 24) x*3600+ix (n9 (ix [l] 0).b9.Minute (decide (4<(ix [l] 0).b9.l6)) (ix [l] 0).start.Min 60) x_2*60+ix (n9 (ix [l] 0).b9.Second (decide (5<(ix [l] 0).b9.l6)) (ix [l] 0).start.D8 60) x_4)=true) (Q (ClX.put x_5 (ix (n9 (ix [l] 0).b9.Hour (decide (3<(ix [l] 0).b9.l6)) (ix [l] 0).start.Hour 24) x*3600+ix (n9 (ix [l] 0).b9.Minute (decide (4<(ix [l] 0).b9.l6)) (ix [l] 0).start.Min 60) x_2*60+ix (n9 (ix [l] 0).b9.Second (decide (5<(ix [l] 0).b9.l6)) (ix [l] 0).start.D8 60) x_4))) (c6 (x_4+1)/\I (x_4+1) (ClX.put x_5 (ix (n9 (ix [l] 0).b9.Hour (decide (3<(ix [l] 0).b9.l6)) (ix [l] 0).start.Hour 24) x*3600+ix (n9 (ix [l] 0).b9.Minute (decide (4<(ix [l] 0).b9.l6)) (ix [l] 0).start.Min 60) x_2*60+ix (n9 (ix [l] 0).b9.Second (decide (5<(ix [l] 0).b9.l6)) (ix [l] 0).start.D8 60) x_4))/\m (x_4+1) (ClX.put x_5 (ix (n9 (ix [l] 0).b9.Hour (decide (3<(ix [l] 0).b9.l6)) (ix [l] 0).start.Hour 24) x*3600+ix (n9 (ix [l] 0).b9.Minute (decide (4<(ix [l] 0).b9.l6)) (ix [l] 0).start.Min 60) x_2*60+ix (n9 (ix [l] 0).b9.Second (decide (5<(ix [l] 0).b9.l6)) (ix [l] 0).start.D8 60) x_4))<m x_4 x_5))) (c6 (x_4+1)/\I (x_4+1) x_5/\m (x_4+1) x_5<m x_4 x_5)))) (c6 (x_2+1)/\I_1 (x_2+1) x_5/\m_1 (x_2+1) x_5<m_1 x_2 x_3)))))) (c6 (x+1)/\I (x+1) x_3/\m (x+1) x_3<m x x_1)))))) (Q x_1))
def c6E{x:ClX Tryz.prog}{l:Lk}{fr tw:Int}{Q:ClX Tryz.prog->Prop}:@Eq Prop (Vck x l fr tw Q) (j4 (E:=N3) (a1G N3 H0 c19 3) (c19 197) Tryz.f197 [.yld 0,.ref 1 0,.ref 2 0,.ref 3 0] [(0,.ob 0 4 x)] [(1,.own 146 [.fel (N:=U) 203 [l] 0 0]),(2,.own 3 [.int .i64 fr]),(3,.own 3 [.int .i64 tw])] 8 (fun _ its _=>obQ N3 Q its)):=by kernel_rfl
def Vck_ok{x:ClX Tryz.prog}{l:Lk}{fr tw:Int}{Q:ClX Tryz.prog->Prop}(h:Vck x l fr tw Q):j4 (E:=N3) (a1G N3 H0 c19 3) (c19 197) Tryz.f197 [.yld 0,.ref 1 0,.ref 2 0,.ref 3 0] [(0,.ob 0 4 x)] [(1,.own 146 [.fel (N:=U) 203 [l] 0 0]),(2,.own 3 [.int .i64 fr]),(3,.own 3 [.int .i64 tw])] 8 (fun _ its _=>obQ N3 Q its):=by rw[<- c6E];exact h
set_option maxHeartbeats 2000000 in
def pck(x:ClX Tryz.prog)(l:Lk)(fr tw:Int)(hf:G3 l.start l.b9=true)(ho:okY x.1.pre x.1.res x.2 (a3x l.start l.b9 fr tw)):Vck x l fr tw (fun z=>z=(x.1,goY x.1.res x.2 (a3x l.start l.b9 fr tw))):=by
 unfold Vck;have el:ix [l] 0=l:=rfl;rw[el];have hF:=J7.1 hf;have bh:=c73 hF;have bm:=b4M hF;have bs:=b3S hF;have lh:((hoL l.start l.b9).length:Int)<=60:=T0 (s7.1 hF.rr).lists.ho.few (by decide);have lm:((miL l.start l.b9).length:Int)<=60:=T0 (s7.1 hF.rr).lists.mi.few (by decide);have ls:((seL l.start l.b9).length:Int)<=60:=T0 (s7.1 hF.rr).lists.se.few (by decide);have e1:n9 l.b9.Hour (decide (3<l.b9.l6)) l.start.Hour 24=hoL l.start l.b9:=rfl;have e2:n9 l.b9.Minute (decide (4<l.b9.l6)) l.start.Min 60=miL l.start l.b9:=rfl;have e3:n9 l.b9.Second (decide (5<l.b9.l6)) l.start.D8 60=seL l.start l.b9:=rfl;rw[e1,e2,e3];generalize hg:goY x.1.res x.2 (a3x l.start l.b9 fr tw)=g at *;have h0:GoI x.1.pre x.1.res g x.2 (a3x l.start l.b9 fr tw):=⟨hg,ho⟩;unfold a3x at h0;generalize hoL l.start l.b9=hs at *;generalize miL l.start l.b9=ms at *;generalize seL l.start l.b9=ss at *;have lt:∀n i:Int,i<n->(n-(i+1)).toNat<(n-i).toNat:=fun n i h=>by omega
 refine⟨⟨by decide,by decide⟩,fun i y=>0<=i/\i<=hs.length/\y.1=x.1/\GoI x.1.pre x.1.res g y.2 (a1M fr tw ms ss (hs.drop i.toNat)),fun i _=>((hs.length:Int)-i).toNat,⟨d5o 0,by omega,rfl,by simpa using h0⟩,?_⟩;rintro i y ⟨i0,i1,ey,hy⟩;refine⟨fun hi=>⟨i0,hi,fun hh=>?_⟩,fun hi=>?_⟩
 . obtain⟨h1,h2⟩:=bh i i0 hi;rw[P4 i0 hi]at hy;generalize ix hs i=h at *;refine⟨⟨by omega,by omega⟩,⟨by omega,by omega⟩,fun _=>⟨by omega,by omega⟩,fun hc=>⟨⟨by omega,by omega⟩,⟨by omega,by omega,ey,?_⟩,lt _ _ hi⟩,fun hc=>⟨⟨by decide,by decide⟩,?_⟩⟩
   . rwa [a6W hc]at hy
   . rw[b0l hc]at hy;refine⟨fun j z=>0<=j/\j<=ms.length/\z.1=x.1/\GoI x.1.pre x.1.res g z.2 (a1n fr tw (h*3600) ss (ms.drop j.toNat)++a1M fr tw ms ss (hs.drop (i+1).toNat)),fun j _=>((ms.length:Int)-j).toNat,⟨d5o 0,by omega,ey,by simpa using hy⟩,?_⟩;rintro j z ⟨j0,j1,ez,hz⟩;refine⟨fun hj=>⟨j0,hj,fun hm=>?_⟩,fun hj=>⟨⟨by omega,by omega⟩,⟨by omega,by omega,ez,?_⟩,lt _ _ hi⟩⟩
     . obtain⟨m1,m2⟩:=bm j j0 hj;rw[P4 j0 hj]at hz;generalize ix ms j=m at *;refine⟨⟨by omega,by omega⟩,⟨by omega,by omega⟩,⟨by omega,by omega⟩,⟨by omega,by omega⟩,fun hc=>⟨⟨by omega,by omega⟩,⟨by omega,by omega,ez,?_⟩,lt _ _ hj⟩,fun hc=>⟨⟨by decide,by decide⟩,?_⟩⟩
       . rwa [b1r hc]at hz
       . rw[b5W hc]at hz;refine⟨fun k u=>0<=k/\k<=ss.length/\u.1=x.1/\GoI x.1.pre x.1.res g u.2 (a3g fr tw (h*3600+m*60) (ss.drop k.toNat)++(a1n fr tw (h*3600) ss (ms.drop (j+1).toNat)++a1M fr tw ms ss (hs.drop (i+1).toNat))),fun k _=>((ss.length:Int)-k).toNat,⟨d5o 0,by omega,ez,by simpa using hz⟩,?_⟩;rintro k u ⟨k0,k1,eu,hu⟩;obtain⟨uc,ul⟩:=u;have eu:uc=x.1:=eu;subst eu;refine⟨fun hk=>⟨k0,hk,fun hm=>?_⟩,fun hk=>⟨⟨by omega,by omega⟩,⟨by omega,by omega,rfl,?_⟩,lt _ _ hj⟩⟩
         . obtain⟨s1,s2⟩:=bs k k0 hk;rw[P4 k0 hk]at hu;generalize ix ss k=s at *;refine⟨⟨by omega,by omega⟩,⟨by omega,by omega⟩,⟨by omega,by omega⟩,⟨by omega,by omega⟩,fun hc=>?_,fun hc=>⟨⟨by omega,by omega⟩,⟨by omega,by omega,rfl,?_⟩,lt _ _ hk⟩⟩
           . rw[b2M hc,d6C]at hu;refine⟨hu.may,fun hr=>?_,fun hr=>⟨⟨by omega,by omega⟩,⟨by omega,by omega,rfl,hu.go (d4S.1 hr)⟩,lt _ _ hk⟩⟩;exact d7R rfl (hu.stop hr)
           . rwa [b67 hc]at hu
         . rw[d6T (by omega),c1J,d6a]at hu;exact hu
     . rw[d6T (by omega),b1G,d6a]at hz;exact hz
 . rw[d6T (by omega),b2P]at hy;exact d7R ey hy.fin
def yeR:YE N3:=⟨fun x=>x,fun _ _ _ _ _=>d7A⟩
def c0v(K:Nat)(cs:List (SV U))(its:c7 U)(pre:List Int->Int->Prop)(res:List Int->Int->Bool):Option (Prop×List Int):=bif Nat.beq K 197 then(match cs,its with
 |[.ref 1 0,.ref 2 0,.ref 3 0],[(1,.own 146 [.fel 203 [l] 0 0]),(2,.own 3 [.int .i64 fr]),(3,.own 3 [.int .i64 tw])]=>some (G3 l.start l.b9=true/\okY pre res [] (a3x l.start l.b9 fr tw),goY res [] (a3x l.start l.b9 fr tw))
 |_,_=>none)else none
def tellF_ok(K:Nat)(cs:List (SV U))(its:c7 U)(pre:List Int->Int->Prop)(res:List Int->Int->Bool)(ob:Prop)(xs:List Int)(h:c0v K cs its pre res=some (ob,xs))(ho:ob):(∀args w,(callFunc K args).run N3.P w=.ok (.enter K args) w)/\∀c:Cl N3.P,c.pre=pre->c.res=res ->
  M6 N3.P N3.N N3.T N3.G K (.yld 0::cs) ((0,.ob 0 (its.length+1) (yeR.yo (c,[])))::its) (2*(its.length+1)) (fun k=>∀fid n v,k v ((0,.ob 0 fid (yeR.yo (c,xs)))::its) n):=by
 unfold c0v at h;have⟨hK,h⟩:=j3 h;have hK:=d4W hK;subst hK;split at h
 . rename_i l fr tw _;cases h;refine⟨Tryz.call197,?_⟩;rintro c rfl rfl;exact c7d NI173_ok ((inlHN_ok NI173_ok H0_ok c19 3)) Tryz.func197 (Vck_ok (pck (c,[]) l fr tw ho.1 ho.2))
 . cases h
def c1a:b4v N3 yeR:=⟨c0v,tellF_ok⟩
attribute [local irreducible] a9w
def c1e:Nat->D3:=fun|140=>⟨84,fun|4=>some ⟨[0,5,6,7],[.slot 8 (.int .i64),.tree [] [.own (some 7) 30 [.v (.acc 3)]]]⟩|10=>some ⟨[7,8,9],[.tree [] [.own (some 7) 30 [.v (.acc 3)]]]⟩|15=>some ⟨[0,7,61,62],[.slot 63 (.int .i64),.slot 11 (.acc 3)]⟩|_=>none,nn⟩|173=>⟨8,nn,nn⟩|_=>⟨0,nn,nn⟩
def c2a(l:Lk)(i:Int)(x:Int):=a3x l.start l.b9 (C2 l.b9 i-(x-1)*86400) (C2 l.b9 (i+1)-(x-1)*86400)
def Vcc(l:Lk)(i:Int)(Q:List Int->Prop):Prop:=
0<=i/\i<=1000000000000/\0<=l.b9.v8/\l.b9.v8<=6/\c6 (i+1)/\0<=i+1/\i+1<=1000000000000/\0<=l.b9.v8/\l.b9.v8<=6/\(86400:Int)≠0/\c6 ((C2 l.b9 i).tdiv 86400)/\c6 ((C2 l.b9 i).tdiv (86400:Int)+1)/\∃(I:Int->List Int->Prop),∃(m:Int->List Int->Nat),I ((C2 l.b9 i).tdiv (86400:Int)+1) []/\∀(x:Int)(x_1:List Int),I x x_1->c6 (x-1)/\c6 ((x-1)*86400)/\(bR ((x-1)*86400<C2 l.b9 (i+1)) (F9 l.b9=true/\1<=x/\x<=3652059/\N5 l.b9=true/\(bR (¬a3K l.start l.b9 l.day x=true) (c6 (x+1)/\I (x+1) x_1/\m (x+1) x_1<m x x_1) (c6 (x-1)/\c6 ((x-1)*86400)/\c6 (C2 l.b9 i-(x-1)*86400)/\c6 (C2 l.b9 (i+1)-(x-1)*86400)/\∃(I_1:List Int->List Int->Prop),∃(pre:List Int->Int->Prop),∃(res:List Int->Int->Bool),I_1 [] x_1/\(∀(xs:List Int)(t:Int),pre xs t->K2 res xs=false)/\(∀(xs:List Int)(t:Int),c6 t->pre xs t->∀(x_2:List Int),I_1 xs x_2->c6 ((x-1)*86400+t)/\(x_2.length+[(x-1)*86400+t].length)*(some (8:Nat)).getD (0:Nat)<=140737488355328/\res xs t=true/\I_1 (xs++[t]) (x_2++[(x-1)*86400+t]))/\(G3 l.start l.b9=true/\okY pre res [] (c2a l i x))/\∀(x_2:List Int),I_1 (goY res [] (c2a l i x)) x_2->(K2 res (goY res [] (c2a l i x))=true->False)/\(K2 res (goY res [] (c2a l i x))=false->c6 (x+1)/\I (x+1) x_2/\m (x+1) x_2<m x x_1)))) ((bR ((↑(ix [l] 0).b9.y6.length:Int)=0) (Q x_1) (∃(I:Int->List Int->Prop),∃(m:Int->List Int->Nat),I 0 []/\∀(x:Int)(x_2:List Int),I x x_2->(bR (x<(↑x_1.length:Int)) (0<=x/\x<(↑x_1.length:Int)/\(c6 (ix x_1 x)->c6 (x+1)/\((ix [l] 0).b9.y6.length<=1000000/\(-1000000000000000:Int)<=x+1/\x+1<=1000000000000000/\(-1000000000000000:Int)<=(↑x_1.length:Int)/\(↑x_1.length:Int)<=1000000000000000)/\(bR (Re.a3L (ix [l] 0).b9.y6 (x+1) (↑x_1.length:Int)=true) ((x_2.length+[ix x_1 x].length)*(some (8:Nat)).getD (0:Nat)<=140737488355328/\c6 (x+1)/\I (x+1) (x_2++[ix x_1 x])/\m (x+1) (x_2++[ix x_1 x])<m x x_2) (c6 (x+1)/\I (x+1) x_2/\m (x+1) x_2<m x x_2)))) (Q x_2))))))
def c72{l:Lk}{i:Int}{Q:List Int->Prop}:@Eq Prop (Vcc l i Q) (a9w (E:=N3) (a1G N3 H0 c1e 3) (c1e 140) c1a Tryz.f140 [.fel (N:=U) 203 [l] 0 0,.int .i64 i] [] [] 0 (a1R N3 [.acc 3] Q)):=by kernel_rfl
def Vcc_ok{l:Lk}{i:Int}{Q:List Int->Prop}(h:Vcc l i Q):a9w (E:=N3) (a1G N3 H0 c1e 3) (c1e 140) c1a Tryz.f140 [.fel (N:=U) 203 [l] 0 0,.int .i64 i] [] [] 0 (a1R N3 [.acc 3] Q):=by rw[<- c72];exact h
set_option maxHeartbeats 2000000 in
def pcc(l:Lk)(i:Int)(hfw:F9 l.b9=true)(hf:G3 l.start l.b9=true)(i0:0<=i)(i1:i<=999999999999):Vcc l i (fun y=>y=B6 l.start l.b9 l.day i):=by
 unfold Vcc c2a B6;have el:ix [l] 0=l:=rfl;rw[el];have hF:=J7.1 hf;have hd8:=(s7.1 hF.rr).head;obtain⟨_,_,_,_,_,_,w0,w1⟩:=hd8;obtain⟨f0,f1⟩:=Y6 (r:=l.b9) i0;obtain⟨t0,t1⟩:=Y6 (r:=l.b9) (i:=i+1) (by omega);generalize C2 l.b9 i=fr at *;generalize C2 l.b9 (i+1)=tw at *;have ed:fr.tdiv 86400=fr / 86400:=d5b f0;rw[ed];refine⟨i0,by omega,w0,w1,⟨by omega,by omega⟩,by omega,by omega,w0,w1,by decide,⟨by omega,by omega⟩,⟨by omega,by omega⟩,a6P l.start l.b9 l.day fr tw,fun n _=>((tw+86399) / 86400+1-n).toNat,a6P.init,?_⟩;intro n acc hI;have hl:=hI.len f0 f1 t1;have ha:=hI.a;have hb:=hI.b;have hms:(n-1)*86400<tw->((tw+86399) / 86400+1-(n+1)).toNat<((tw+86399) / 86400+1-n).toNat:=fun h=>by omega
 refine⟨⟨by omega,by omega⟩,⟨by omega,by omega⟩,fun hn=>?_,fun hn=>?_⟩
 . have n1:1<=n:=by omega
   have n2:n<=3652059:=by omega
   refine⟨hfw,n1,n2,hF.rr,fun hd=>⟨⟨by omega,by omega⟩,?_,hms hn⟩,fun hd=>⟨⟨by omega,by omega⟩,⟨by omega,by omega⟩,⟨by omega,by omega⟩,⟨by omega,by omega⟩,fun xs a=>a=acc++xs.map (fun t=>(n-1)*86400+t),fun ys t=>(fr-(n-1)*86400<=t/\t<tw-(n-1)*86400)/\ys.length<=216000,fun _ _=>true,by simp,fun xs t _=>?_,fun xs t h64 hp a ha2=>⟨⟨by omega,by omega⟩,?_,rfl,?_⟩,⟨hf,b6Q _ [] ?_ fun t ht=>?_⟩,fun a ha2=>⟨fun h=>?_,fun _=>⟨⟨by omega,by omega⟩,?_,hms hn⟩⟩⟩⟩
   . have:=hI.step hF hn;unfold a8y at this;rw[if_neg hd,d5C]at this;exact this
   . exact a7Z
   . show(a.length+1)*8<=140737488355328
     have:a.length=acc.length+xs.length:=by rw[ha2,d4Y,d6h]
     omega
   . rw[ha2];simp
   . have:=b3k (fr:=fr-(n-1)*86400) (tw:=tw-(n-1)*86400) hF;rw[d6b,d6I];exact this
   . exact((b2i hF).1 ht).2
   . rw[a7Z]at h;cases h
   . have:=hI.step hF hn;unfold a8y at this;rw[if_pos (d4S.1 hd)]at this;rw[b2a,d6a]at ha2;rw[ha2];exact this
 . have e:=hI.fin hn;refine⟨fun h=>?_,fun h=>⟨fun k p=>a1D l.b9.y6 acc p k,fun k _=>((acc.length:Int)-k).toNat,a1D.init,fun k p hk=>?_⟩⟩
   . unfold X2;rw[if_pos h];exact e
   . have sp:=(s7.1 hF.rr).lists.sp.few;have ka:=hk.a;have kc:=hk.c;refine⟨fun hlt=>⟨ka,hlt,fun _=>⟨⟨by omega,by omega⟩,⟨by omega,by omega,by omega,by omega,by omega⟩,fun hh=>⟨?_,⟨by omega,by omega⟩,hk.yes hlt ?_,by show(_:Int).toNat<(_:Int).toNat;omega⟩,fun hh=>⟨⟨by omega,by omega⟩,hk.no hlt ?_,by show(_:Int).toNat<(_:Int).toNat;omega⟩⟩⟩,fun hge=>?_⟩
     . show(p.length+1)*8<=140737488355328
       omega
     . unfold Re.a3L at hh;rw[d5V,show k+1-(acc.length:Int)-1=k-acc.length by omega]at hh;exact hh
     . unfold Re.a3L at hh;rw[d5V,show k+1-(acc.length:Int)-1=k-acc.length by omega]at hh;exact hh
     . have:=hk.fin hge;unfold X2;rw[if_neg h,<- e];exact this
def ccc(a:List (SV U))(nx:Nat):Option (CR U):=match a with|[.fel 203 [l] 0 0,.int .i64 i]=>some ⟨[F9 l.b9=true,G3 l.start l.b9=true,0<=i,i<=999999999999],[],.acc nx,[.ac 3 (B6 l.start l.b9 l.day i)]⟩|_=>none
def Ncc:Env:=N3.a0K 140 ccc
def Ncc_ok:c8 Ncc:=NI173_ok.a0K Tryz.call140 fun(args:List (SV U)) nx (c:CR U) (h:ccc args nx=some c) hp ho=>by
 unfold ccc at h;split at h
 . rename_i l i;cases h;exact d1L NI173_ok ((inlHN_ok NI173_ok H0_ok c1e 3)) c1a Tryz.func140 (k:=.acc 3) (x:=B6 l.start l.b9 l.day i) hp (Vcc_ok (pcc l i ho.1 ho.2.1 ho.2.2.1 ho.2.2.2.1))
 . cases h
def c9Z:Env:=Ncc.z7 98 Tryz.f98
def NI98_ok:c8 c9Z:=Ncc_ok.z7 Tryz.call98 Tryz.func98
def c5M:Env:=c9Z.z7 139 Tryz.f139
def NI139_ok:c8 c5M:=NI98_ok.z7 Tryz.call139 Tryz.func139
def c8S:Nat->D3:=fun|96=>⟨74,fun|6=>some ⟨[2,6,39,40],[.slot 41 (.int .i64)]⟩|_=>none,nn⟩|98=>⟨171,fun|16=>some ⟨[0,2,3,9,11,14],[.slot 10 (.int .i64),.slot 15 (.int .i64),.own 1000003 [.int .i64]]⟩|23=>some ⟨[0,2,3,9,11,14,15,130,131],[.slot 10 (.int .i64),.slot 132 (.int .i64),.own 1000003 [.int .i64]]⟩|7=>some ⟨[0,1,2,3,9,10,42,43],[.slot 11 (.int .i64),.slot 44 (.int .i64)]⟩|_=>none,fun|5=>some ⟨[0,1,2,3,9,10],[.own 1000003 [.int .i64]]⟩|16=>some ⟨[0,2,3,9,10,11,14],[.slot 15 (.int .i64)]⟩|_=>none⟩|139=>⟨14,nn,nn⟩|_=>⟨0,nn,nn⟩
def b7K(l:Lk):=l8 l.b9 (bif false then max (0:Int) 315537897599 else min (0:Int) 315537897599)-l8 l.b9 (b8 (j7 l.start))
def b81(l:Lk)(x_4:Int):=l8 l.b9 (b8 (j7 l.start))+x_4*l.b9.Interval
def b2n(l:Lk):=l8 l.b9 (b8 (j7 l.start))+40000*l.b9.Interval
def b3V  := o6.w (205:Nat) [] (o6.no 5)
def b41(l:Lk)(x_4:Int):=B6 l.start l.b9 l.day (b81 l x_4)
def Vfa(l:Lk)(tw:Int)(Q:o6->Prop):Prop:=
(0<=b8 (j7 l.start)/\b8 (j7 l.start)<=400000000000/\0<=l.b9.v8/\l.b9.v8<=6)/\c6 ((40000:Int)*l.b9.Interval)/\c6 (b2n l)/\0<=l8 l.b9 (b8 (j7 l.start))+40000*l.b9.Interval/\l8 l.b9 (b8 (j7 l.start))+40000*l.b9.Interval<=1000000000000/\0<=l.b9.v8/\l.b9.v8<=6/\(bR (tw<=C2 l.b9 (b2n l)∨315537897600<=C2 l.b9 (b2n l)) (Q o6.nil) (∃(I:Int->Prop),∃(m:Int->Nat),I 0/\∀(x:Int),I x->(bR (x<(↑l.b9.e9.length:Int)) (0<=x/\x<(↑l.b9.e9.length:Int)/\(c6 (ix l.b9.e9 x).Day.Year->c6 (ix l.b9.e9 x).Day.Month->c6 (ix l.b9.e9 x).Day.Date->c6 (ix l.b9.e9 x).Hour->c6 (ix l.b9.e9 x).Min->c6 (ix l.b9.e9 x).D8->(bR (b8 (j7 (ix l.b9.e9 x))<C2 l.b9 (b2n l)) (Q o6.nil) (c6 (x+1)/\I (x+1)/\m (x+1)<m x)))) ((bR (0<l.b9.Count) (∃(J:Int->Prop),((bR (b8 (j7 l.start)<C2 l.b9 (b2n l)/\0<=b8 (j7 l.start)) (c6 ((0:Int)+1)/\(bR (¬(0:Int)+1<l.b9.Count) ((bR (l.b9.Count<=(0:Int)+1∨o6.nil≠o6.nil) (Q o6.nil) (Q b3V))) (J ((0:Int)+1)))) (J 0)))/\∀(x:Int),J x->∃(I:Int->Int->Prop),∃(m:Int->Int->Nat),I 315537897600 0/\∀(x_1 x_2:Int),I x_1 x_2->(bR (x_2<(↑l.b9.e9.length:Int)) (0<=x_2/\x_2<(↑l.b9.e9.length:Int)/\(c6 (ix l.b9.e9 x_2).Day.Year->c6 (ix l.b9.e9 x_2).Day.Month->c6 (ix l.b9.e9 x_2).Day.Date->c6 (ix l.b9.e9 x_2).Hour->c6 (ix l.b9.e9 x_2).Min->c6 (ix l.b9.e9 x_2).D8->c6 (x_2+1)/\I (b8 (j7 (ix l.b9.e9 x_2))) (x_2+1)/\m (b8 (j7 (ix l.b9.e9 x_2))) (x_2+1)<m x_1 x_2)) (0<=b8 (j7 l.start)/\b8 (j7 l.start)<=400000000000/\0<=l.b9.v8/\l.b9.v8<=6/\∃(J:Int->Prop),((bR (l.b9.Count=0/\b8 (j7 l.start)<0) (((0<=bif false then max (0:Int) 315537897599 else min (0:Int) 315537897599)/\(bif false then max (0:Int) 315537897599 else min (0:Int) 315537897599)<=400000000000/\0<=l.b9.v8/\l.b9.v8<=6)/\c6 (b7K l)/\(l.b9.Interval≠0/\c6 ((b7K l).tdiv l.b9.Interval))/\c6 ((b7K l).tdiv l.b9.Interval-1)/\J (bif true then max (0:Int) ((b7K l).tdiv l.b9.Interval-1)else min (0:Int) ((b7K l).tdiv l.b9.Interval-1))) (J 0)))/\∀(x_3:Int),J x_3->∃(I:Int->Int->Int->Prop),∃(m:Int->Int->Int->Nat),I 1 x_3 x/\∀(x x_4 x_5:Int),I x x_4 x_5->c6 (x_4*l.b9.Interval)/\c6 (b81 l x_4)/\0<=l8 l.b9 (b8 (j7 l.start))+x_4*l.b9.Interval/\l8 l.b9 (b8 (j7 l.start))+x_4*l.b9.Interval<=1000000000000/\0<=l.b9.v8/\l.b9.v8<=6/\(bR (((C2 l.b9 (b2n l)<=C2 l.b9 (b81 l x_4)∨x_1<C2 l.b9 (b81 l x_4))∨0<l.b9.Count/\l.b9.Count<=x)∨315537897600<=C2 l.b9 (b81 l x_4)) ((bR (l.b9.Count<=x_5∨o6.nil≠o6.nil) (Q o6.nil) (Q b3V))) ((bR (40000<=x_4) ((bR (l.b9.Count<=x_5∨o6.w (205:Nat) [] (o6.no 5)≠o6.nil) (Q b3V) (Q b3V))) (F9 l.b9=true/\G3 l.start l.b9=true/\0<=l8 l.b9 (b8 (j7 l.start))+x_4*l.b9.Interval/\l8 l.b9 (b8 (j7 l.start))+x_4*l.b9.Interval<=999999999999/\∃(I_1:Int->Int->Int->Prop),∃(m_1:Int->Int->Int->Nat),I_1 x 0 x_5/\∀(x_6 x_7 x_8:Int),I_1 x_6 x_7 x_8->(bR (x_7<(↑(b41 l x_4).length:Int)) (0<=x_7/\x_7<(↑(b41 l x_4).length:Int)/\(c6 (ix (b41 l x_4) x_7)->(bR (ix (b41 l x_4) x_7<=b8 (j7 l.start)) (c6 (x_7+1)/\I_1 x_6 (x_7+1) x_8/\m_1 x_6 (x_7+1) x_8<m_1 x_6 x_7 x_8) ((bR ((C2 l.b9 (b2n l)<=ix (b41 l x_4) x_7∨x_1<ix (b41 l x_4) x_7)∨0<l.b9.Count/\l.b9.Count<=x_6) (c6 (x_4+1)/\I x_6 (x_4+1) x_8/\m x_6 (x_4+1) x_8<m x x_4 x_5) (c6 (x_6+1)/\c6 (x_8+1)/\(bR (¬x_8+1<l.b9.Count) ((bR (l.b9.Count<=x_8+1∨o6.nil≠o6.nil) (Q o6.nil) (Q b3V))) (c6 (x_7+1)/\I_1 (x_6+1) (x_7+1) (x_8+1)/\m_1 (x_6+1) (x_7+1) (x_8+1)<m_1 x_6 x_7 x_8)))))))) (c6 (x_4+1)/\I x_6 (x_4+1) x_8/\m x_6 (x_4+1) x_8<m x x_4 x_5))))))))) (Q b3V))))))
set_option maxHeartbeats 2000000 in
def pfa(l:Lk)(tw:Int)(hfw:F9 l.b9=true)(hf:G3 l.start l.b9=true):Vfa l tw (fun y0=>y0=a7L (a0m l.start l.b9 l.day tw)):=by
 unfold Vfa b41 b3V b2n b81 b7K;simp only[y8];have hF:=J7.1 hf;obtain⟨s0,s1⟩:=y7 hF.rt;obtain⟨_,_,v0,v1,n0,n1,w0,w1⟩:=(s7.1 hF.rr).head;obtain⟨u1,u2⟩:=(s7.1 hF.rr).H8;obtain⟨a0,a1⟩:=a4y (r:=l.b9) s0 s1 w0 w1;obtain⟨fb,hfb⟩:∃fb,a0m l.start l.b9 l.day tw=fb:=⟨_,rfl⟩;rw[hfb];unfold a0m at hfb;have lt:∀n i:Int,i<n->(n-(i+1)).toNat<(n-i).toNat:=fun n i h=>by omega
 generalize C2 l.b9 (l8 l.b9 (b8 l.start)+40000*l.b9.Interval)=b at *;refine⟨⟨s0,by omega,w0,w1⟩,⟨by omega,by omega⟩,⟨by omega,by omega⟩,by omega,by omega,w0,w1,fun h=>?_,fun h=>⟨fun x=>0<=x/\x<=(l.b9.e9.length:Int)/\(0<x->¬b8 (ix l.b9.e9 0)<b),fun x=>((l.b9.e9.length:Int)-x).toNat,⟨d5o 0,by omega,fun h=>absurd h (by decide)⟩,fun x hx=>⟨fun hlt=>⟨hx.1,hlt,fun _ _ _ _ _ _=>⟨fun hs=>?_,fun hs=>⟨⟨by omega,by omega⟩,⟨by omega,by omega,fun _=>?_⟩,lt _ _ hlt⟩⟩⟩,fun hge=>⟨fun hc=>?_,fun hc=>?_⟩⟩⟩⟩
 . rw[if_pos h]at hfb;rw[<- hfb];rfl
 . have e:x=0:=by omega
   subst e;rw[if_neg h,if_pos ⟨hlt,hs⟩]at hfb;rw[<- hfb];rfl
 . have e:x=0:=by omega
   subst e;exact hs
 . have hnu:¬(0<(l.b9.e9.length:Int)/\b8 (ix l.b9.e9 0)<b):=fun hh=>hx.2.2 (by omega) hh.2;rw[if_neg h,if_neg hnu,if_pos hc]at hfb;generalize hg:a0D (a8C l.b9) [] (I5 l.start l.b9 l.day 0 b).1 (I5 l.start l.b9 l.day 0 b).2=g at hfb;have R0:a3Z (a8C l.b9) g [] (I5 l.start l.b9 l.day 0 b).1 (I5 l.start l.b9 l.day 0 b).2:=⟨hg⟩;clear hg;unfold I5 at R0;have ek:L9 l.start l.b9 0=0:=by unfold L9;rw[if_neg (fun hh=>absurd hh.1 (by omega))]
   rw[ek]at R0;generalize b8 l.start=fi at *;generalize l8 l.b9 fi=i0 at *;have yes:∀y:List Int,∀t n:Int,(y.length:Int)=n->n+1<l.b9.Count->a8C l.b9 y t=true:=fun y t n hn hh=>d5e (by rw[hn];exact hh);have no:∀y:List Int,∀t n:Int,(y.length:Int)=n->¬n+1<l.b9.Count->¬a8C l.b9 y t=true:=fun y t n hn hh e=>hh (by have:=d5Q e;rw[hn]at this;exact this);have len1:∀(y:List Int)(t n:Int),(y.length:Int)=n->((y++[t]).length:Int)=n+1:=fun y t n hn=>by rw[d4Y,d6p];omega
   refine⟨fun n=>∃y:List Int,(y.length:Int)=n/\n<=1/\a4f (a8C l.b9) g l.start l.b9 l.day fi b (P9 l.b9) i0 0 1 y,⟨fun hfst=>⟨by decide,fun hst=>?_,fun hgo=>?_⟩,fun hnf=>?_⟩,fun n hn=>⟨fun H8 x=>0<=x/\x<=(l.b9.e9.length:Int)/\H8=if 0<x then b8 (ix l.b9.e9 0)else 315537897600,fun _ x=>((l.b9.e9.length:Int)-x).toNat,⟨d5o 0,by omega,rfl⟩,fun H8 x hx=>⟨fun hlt=>⟨hx.1,hlt,fun _ _ _ _ _ _=>⟨⟨by omega,by omega⟩,⟨by omega,by omega,?_⟩,lt _ _ hlt⟩⟩,fun hge=>?_⟩⟩⟩
   . rw[if_pos hfst.1,d6C,d6a]at R0;have e:=R0.stop (no [] fi 0 rfl hst);have q:=a6q hfb e (len1 [] fi 0 rfl);refine⟨fun h1=>?_,fun h1=>absurd (.inl (by omega)) h1⟩;rw[q.1 (by omega)];rfl
   . rw[if_pos hfst.1,d6C,d6a]at R0;exact⟨[fi],rfl,by decide,⟨R0.go (yes [] fi 0 rfl (d4S.1 hgo))⟩⟩
   . rw[if_neg (fun hh=>hnf ⟨hh,s0⟩),d6a]at R0;exact⟨[],rfl,by decide,⟨R0⟩⟩
   . have e:x=0:=by omega
     subst e;rfl
   . have etil:H8=P9 l.b9:=by
       rw[hx.2.2];unfold P9;by_cases hl:0<(l.b9.e9.length:Int)
       . rw[if_pos hl,if_pos (by omega)]
       . rw[if_neg hl,if_neg (by omega)]
     rw[etil];generalize P9 l.b9=H8 at *;refine⟨s0,by omega,w0,w1,fun k=>k=0,⟨fun hh=>absurd hh.2 (by omega),fun _=>rfl⟩,fun k hk=>⟨fun c k n=>∃y:List Int,(y.length:Int)=n/\n<=c/\1<=c/\c<=l.b9.Count/\0<=k/\k<=40000/\a4f (a8C l.b9) g l.start l.b9 l.day fi b H8 i0 k c y,fun _ k _=>(40001-k).toNat,?_,fun c k n hI=>?_⟩⟩
     . obtain⟨y,h1,h2,h3⟩:=hn;subst hk;exact⟨y,h1,h2,by decide,by omega,by decide,by decide,h3⟩
     . obtain⟨y,hy,hnc,c0,c1,k0,k1,ho⟩:=hI;obtain⟨q0,q1⟩:=b9w hF.rr k0 k1;refine⟨⟨by omega,by omega⟩,⟨by omega,by omega⟩,by omega,by omega,w0,w1,fun he=>?_,fun he=>⟨fun h4=>?_,fun h4=>⟨hfw,hf,by omega,by omega,fun c' j n'=>∃y:List Int,(y.length:Int)=n'/\n'<=c'/\1<=c'/\c'<=l.b9.Count/\0<=j/\j<=((B6 l.start l.b9 l.day (i0+k*l.b9.Interval)).length:Int)/\a4l (a8C l.b9) g l.start l.b9 l.day fi b H8 i0 k c' ((B6 l.start l.b9 l.day (i0+k*l.b9.Interval)).drop j.toNat) y,fun _ j _=>(((B6 l.start l.b9 l.day (i0+k*l.b9.Interval)).length:Int)-j).toNat,⟨y,hy,hnc,c0,c1,d5o 0,by omega,by simpa using ho.enter he h4⟩,fun c' j n' hI'=>?_⟩⟩⟩
       . have q:=a6q hfb (ho.fin he) hy;refine⟨fun h1=>?_,fun h1=>?_⟩
         . rw[q.1 (h1.resolve_right fun hh=>hh rfl)];rfl
         . rw[q.2.2 (fun hh=>h1 (.inl hh)) rfl];rfl
       . have q:=a6q hfb (ho.many he h4) hy;rw[q.2.1 rfl];exact⟨fun _=>rfl,fun _=>rfl⟩
       . have hcl:=a2P (day:=l.day) (i:=i0+k*l.b9.Interval) hF (by omega);obtain⟨y,hy,hnc,c0,c1,j0,j1,hi⟩:=hI';generalize B6 l.start l.b9 l.day (i0+k*l.b9.Interval)=L at *;refine⟨fun hj=>⟨j0,hj,fun _=>?_⟩,fun hj=>⟨⟨by omega,by omega⟩,⟨y,hy,hnc,c0,c1,by omega,by omega,?_⟩,by show(_:Int).toNat<(_:Int).toNat;omega⟩⟩
         . rw[P4 j0 hj]at hi;refine⟨fun hs=>⟨⟨by omega,by omega⟩,⟨y,hy,hnc,c0,c1,by omega,by omega,hi.skip hs⟩,lt _ _ hj⟩,fun hs=>⟨fun hb=>⟨⟨by omega,by omega⟩,⟨y,hy,hnc,c0,c1,by omega,by omega,hi.leave hs hb⟩,by show(_:Int).toNat<(_:Int).toNat;omega⟩,fun hb=>?_⟩⟩;have hcc:¬l.b9.Count<=c':=fun e=>hb (.inr ⟨hc,e⟩);refine⟨⟨by omega,by omega⟩,⟨by omega,by omega⟩,fun hst=>?_,fun hgo=>⟨⟨by omega,by omega⟩,⟨y++[ix L j],len1 y _ _ hy,by omega,by omega,by omega,by omega,by omega,(hi.one hs hb).1 (yes y _ _ hy (d4S.1 hgo))⟩,lt _ _ hj⟩⟩;have q:=a6q hfb ((hi.one hs hb).2 (no y _ _ hy hst)) (len1 y _ _ hy);refine⟨fun h1=>?_,fun h1=>absurd (.inl (by omega)) h1⟩;rw[q.1 (by omega)];rfl
         . rw[d6T (by omega)]at hi;exact hi.nil
 . have hnu:¬(0<(l.b9.e9.length:Int)/\b8 (ix l.b9.e9 0)<b):=fun hh=>hx.2.2 (by omega) hh.2;rw[if_neg h,if_neg hnu,if_neg hc]at hfb;rw[<- hfb];rfl
def cfa(a:List (SV U))(nx:Nat):Option (CR U):=match a with|[.fel 203 [l] 0 0,.int .i64 tw]=>some ⟨[F9 l.b9=true,G3 l.start l.b9=true],[],.err (a7L (a0m l.start l.b9 l.day tw)),[]⟩|_=>none
def Nfa:Env:=c5M.a0K 96 cfa
def Nfa_ok:c8 Nfa:=NI139_ok.a0K Tryz.call96 fun(args:List (SV U)) nx (c:CR U) (h:cfa args nx=some c) hp ho=>by
 unfold cfa at h;split at h
 . rename_i l tw;cases h;exact d1d (an:=c8S 96) NI139_ok (inlHN_ok NI139_ok H0_ok c8S 4) Tryz.func96 (k:=.err) (x:=a7L (a0m l.start l.b9 l.day tw)) hp (kc (pfa l tw ho.1 ho.2.1) (by kernel_rfl))
 . cases h
def d2e:Env:=Nfa.z7 99 Tryz.f99
def NI99_ok:c8 d2e:=Nfa_ok.z7 Tryz.call99 Tryz.func99
def c9o:Nat->D3:=fun|54=>⟨61,nn,nn⟩|98=>⟨171,fun|16=>some ⟨[0,2,3,9,11,14],[.slot 10 (.int .i64),.slot 15 (.int .i64),.own 2000003 [.acc 26]]⟩|23=>some ⟨[0,2,3,9,11,14,15,130,131],[.slot 10 (.int .i64),.slot 132 (.int .i64),.own 2000003 [.acc 26]]⟩|7=>some ⟨[0,1,2,3,9,10,42,43],[.slot 11 (.int .i64),.slot 44 (.int .i64)]⟩|_=>none,fun|5=>some ⟨[0,1,2,3,9,10],[.own 2000003 [.acc 26]]⟩|16=>some ⟨[0,2,3,9,10,11,14],[.slot 15 (.int .i64)]⟩|_=>none⟩|99=>⟨18,nn,nn⟩|_=>⟨0,nn,nn⟩
def a3D(s:Tm)(r:Rl)(x_4:Int):=B6 (j7 s) (M1 r) (u9 (etD s.Day)) (l8 (M1 r) (b8 (j7 (j7 s)))+x_4*r.Interval)
def b7s(r:Rl)(a:Tm)(s:Tm):=l8 (M1 r) (bif false then max (b8 (j7 a)) 315537897599 else min (b8 (j7 a)) 315537897599)-l8 (M1 r) (b8 (j7 (j7 s)))
def a47(s:Tm):=b8 (j7 (j7 s))
def c20(s:Tm)(r:Rl)(b:Tm):=a0m (j7 s) (M1 r) (u9 (etD s.Day)) (b8 (j7 b))
def Vex(s:Tm)(r:Rl)(a:Tm)(b:Tm)(Q:List Tm->o6->Prop):Prop:=
F9 (M1 r)=true/\(bR ((¬G3 (j7 s) (M1 r)=true∨¬p9 (j7 a)=true)∨¬p9 (j7 b)=true) (Q [] (o6.no 2)) (F9 (M1 r)=true/\G3 (j7 s) (M1 r)=true/\(bR (a7L (c20 s r b)≠o6.nil) (((a7L (c20 s r b)).is 5∨a7L (c20 s r b)=o6.nil)/\Q [] (P3 (a7L (c20 s r b)))) (∃(J:List Tm->Prop),((bR (b8 (j7 (j7 s))<b8 (j7 b)/\0<=b8 (j7 (j7 s))) ((bR (b8 (j7 a)<=b8 (j7 (j7 s))) (b8 (j7 (j7 s))<=9000000000000000000/\[j7 (L4 (a47 s) (j7 s))].length*(some (56:Nat)).getD (0:Nat)<=140737488355328/\(bR (¬(↑[j7 (L4 (a47 s) (j7 s))].length:Int)<=1000) ((bR (o6.nil≠o6.nil) ((o6.nil.is 5∨o6.nil=o6.nil)/\Q [] (P3 o6.nil)) ((bR (1000<(↑[j7 (L4 (a47 s) (j7 s))].length:Int)) (Q [] (o6.no 16)) (Q [j7 (L4 (a47 s) (j7 s))] o6.nil))))) (J [j7 (L4 (a47 s) (j7 s))]))) ((bR (¬(0:Int)<=1000) ((bR (o6.nil≠o6.nil) ((o6.nil.is 5∨o6.nil=o6.nil)/\Q [] (P3 o6.nil)) ((bR ((1000:Int)<0) (Q [] (o6.no 16)) (Q [] o6.nil))))) (J []))))) (J [])))/\∀(x:List Tm),J x->∃(I:Int->Int->Prop),∃(m:Int->Int->Nat),I 315537897600 0/\∀(x_1 x_2:Int),I x_1 x_2->(bR (x_2<(↑r.e9.length:Int)) (0<=x_2/\x_2<(↑r.e9.length:Int)/\(c6 (ix r.e9 x_2).Day.Year->c6 (ix r.e9 x_2).Day.Month->c6 (ix r.e9 x_2).Day.Date->c6 (ix r.e9 x_2).Hour->c6 (ix r.e9 x_2).Min->c6 (ix r.e9 x_2).D8->c6 (x_2+1)/\I (b8 (j7 (ix r.e9 x_2))) (x_2+1)/\m (b8 (j7 (ix r.e9 x_2))) (x_2+1)<m x_1 x_2)) (0<=b8 (j7 (j7 s))/\b8 (j7 (j7 s))<=400000000000/\0<=r.v8/\r.v8<=6/\∃(J:Int->Prop),((bR (r.Count=0/\b8 (j7 (j7 s))<b8 (j7 a)) (((0<=bif false then max (b8 (j7 a)) 315537897599 else min (b8 (j7 a)) 315537897599)/\(bif false then max (b8 (j7 a)) 315537897599 else min (b8 (j7 a)) 315537897599)<=400000000000/\0<=r.v8/\r.v8<=6)/\c6 (b7s r a s)/\(r.Interval≠0/\c6 ((b7s r a s).tdiv r.Interval))/\c6 ((b7s r a s).tdiv r.Interval-1)/\J (bif true then max (0:Int) ((b7s r a s).tdiv r.Interval-1)else min (0:Int) ((b7s r a s).tdiv r.Interval-1))) (J 0)))/\∀(x_3:Int),J x_3->∃(I:Int->Int->List Tm->Prop),∃(m:Int->Int->List Tm->Nat),I 1 x_3 x/\∀(x x_4:Int)(x_5:List Tm),I x x_4 x_5->c6 (x_4*r.Interval)/\c6 (l8 (M1 r) (a47 s)+x_4*r.Interval)/\0<=l8 (M1 r) (a47 s)+x_4*r.Interval/\l8 (M1 r) (a47 s)+x_4*r.Interval<=1000000000000/\0<=r.v8/\r.v8<=6/\(bR (((b8 (j7 b)<=C2 (M1 r) (l8 (M1 r) (a47 s)+x_4*r.Interval)∨x_1<C2 (M1 r) (l8 (M1 r) (a47 s)+x_4*r.Interval))∨0<r.Count/\r.Count<=x)∨315537897600<=C2 (M1 r) (l8 (M1 r) (a47 s)+x_4*r.Interval)) ((bR (o6.nil≠o6.nil) ((o6.nil.is 5∨o6.nil=o6.nil)/\Q [] (P3 o6.nil)) ((bR (1000<(↑x_5.length:Int)) (Q [] (o6.no 16)) (Q x_5 o6.nil))))) ((bR (40000<=x_4) ((bR (o6.w (205:Nat) [] (o6.no 5)≠o6.nil) (((o6.w (205:Nat) [] (o6.no 5)).is 5∨o6.w (205:Nat) [] (o6.no 5)=o6.nil)/\Q [] (P3 (o6.w (205:Nat) [] (o6.no 5)))) ((bR (1000<(↑x_5.length:Int)) (Q [] (o6.no 16)) (Q x_5 o6.nil))))) (F9 (M1 r)=true/\G3 (j7 s) (M1 r)=true/\0<=l8 (M1 r) (a47 s)+x_4*r.Interval/\l8 (M1 r) (a47 s)+x_4*r.Interval<=999999999999/\∃(I_1:Int->Int->List Tm->Prop),∃(m_1:Int->Int->List Tm->Nat),I_1 x 0 x_5/\∀(x_6 x_7:Int)(x_8:List Tm),I_1 x_6 x_7 x_8->(bR (x_7<(↑(a3D s r x_4).length:Int)) (0<=x_7/\x_7<(↑(a3D s r x_4).length:Int)/\(c6 (ix (a3D s r x_4) x_7)->(bR (ix (a3D s r x_4) x_7<=b8 (j7 (j7 s))) (c6 (x_7+1)/\I_1 x_6 (x_7+1) x_8/\m_1 x_6 (x_7+1) x_8<m_1 x_6 x_7 x_8) ((bR ((b8 (j7 b)<=ix (a3D s r x_4) x_7∨x_1<ix (a3D s r x_4) x_7)∨0<r.Count/\r.Count<=x_6) (c6 (x_4+1)/\I x_6 (x_4+1) x_8/\m x_6 (x_4+1) x_8<m x x_4 x_5) (c6 (x_6+1)/\(bR (b8 (j7 a)<=ix (a3D s r x_4) x_7) (ix (a3D s r x_4) x_7<=9000000000000000000/\(x_8.length+[j7 (L4 (ix (a3D s r x_4) x_7) (j7 s))].length)*(some (56:Nat)).getD (0:Nat)<=140737488355328/\(bR (¬(↑(x_8++[j7 (L4 (ix (a3D s r x_4) x_7) (j7 s))]).length:Int)<=1000) ((bR (o6.nil≠o6.nil) ((o6.nil.is 5∨o6.nil=o6.nil)/\Q [] (P3 o6.nil)) ((bR (1000<(↑(x_8++[j7 (L4 (ix (a3D s r x_4) x_7) (j7 s))]).length:Int)) (Q [] (o6.no 16)) (Q (x_8++[j7 (L4 (ix (a3D s r x_4) x_7) (j7 s))]) o6.nil))))) (c6 (x_7+1)/\I_1 (x_6+1) (x_7+1) (x_8++[j7 (L4 (ix (a3D s r x_4) x_7) (j7 s))])/\m_1 (x_6+1) (x_7+1) (x_8++[j7 (L4 (ix (a3D s r x_4) x_7) (j7 s))])<m_1 x_6 x_7 x_8))) ((bR (¬(↑x_8.length:Int)<=1000) ((bR (o6.nil≠o6.nil) ((o6.nil.is 5∨o6.nil=o6.nil)/\Q [] (P3 o6.nil)) ((bR (1000<(↑x_8.length:Int)) (Q [] (o6.no 16)) (Q x_8 o6.nil))))) (c6 (x_7+1)/\I_1 (x_6+1) (x_7+1) x_8/\m_1 (x_6+1) (x_7+1) x_8<m_1 x_6 x_7 x_8)))))))))) (c6 (x_4+1)/\I x_6 (x_4+1) x_8/\m x_6 (x_4+1) x_8<m x x_4 x_5))))))))))))
set_option maxHeartbeats 2000000 in
def pex(s:Tm)(r:Rl)(a:Tm)(b:Tm)(hfw:F9 r=true):Vex s r a b (fun y0 y1=>y0=(J9 s r a b).1/\y1=(J9 s r a b).2):=by
 unfold Vex c20 a47 b7s a3D;simp only[y8,A9,B5];refine⟨hfw,fun h=>?_,fun h=>?_⟩
 . unfold J9;rw[if_pos (show b8g s r a b from h)];exact⟨rfl,rfl⟩
 have hnb:¬b8g s r a b:=h;have hf:G3 s r=true:=d4S.1 fun e=>h (.inl (.inl e));have ha:p9 a=true:=d4S.1 fun e=>h (.inl (.inr e));have hb:p9 b=true:=d4S.1 fun e=>h (.inr e);have hF:=J7.1 hf;obtain⟨px,hpx⟩:∃p,J9 s r a b=p:=⟨_,rfl⟩;rw[hpx];unfold J9 at hpx;rw[if_neg hnb]at hpx;obtain⟨fb,hfb⟩:∃fb,a0m s r (u9 s.Day) (b8 b)=fb:=⟨_,rfl⟩;rw[hfb]at hpx ⊢;refine⟨hfw,hf,fun he=>?_,fun he=>?_⟩
 . cases fb with
   |false=>exact absurd rfl he
   |true =>
    rw[if_pos rfl]at hpx;rw[<- hpx];exact⟨.inl a6b,rfl,a5h⟩
 cases fb with
 |true=>exact absurd (fun e=>by cases e) he
 |false =>
 rw[if_neg d5R]at hpx;obtain⟨s0,s1⟩:=y7 hF.rt;obtain⟨g0,g1⟩:=y7 ha;obtain⟨d0,d1⟩:=y7 hb;obtain⟨_,_,v0,v1,n0,n1,w0,w1⟩:=(s7.1 hF.rr).head;obtain⟨u1,u2⟩:=(s7.1 hF.rr).H8;have hix:∀x,0<=x->x<315537897600->0<=l8 r x/\l8 r x<=315537897600:=fun x x0 x1=>a4y x0 x1 w0 w1;obtain⟨z0,z1,z2⟩:=c53 (s:=s) v0 hix g0 ⟨s0,s1⟩;obtain⟨a0,a1⟩:=hix _ s0 s1;obtain⟨b0,b1⟩:=hix (min (b8 a) 315537897599) (by omega) (by omega);have lt:∀n i:Int,i<n->(n-(i+1)).toNat<(n-i).toNat:=fun n i h=>by omega
 generalize hg:b4A s r a b=g at hpx;unfold b4A at hg;have R0:a3Z (a57 s a) g [] (I5 s r (u9 s.Day) (b8 a) (b8 b)).1 (I5 s r (u9 s.Day) (b8 a) (b8 b)).2:=⟨hg⟩;clear hg;unfold I5 at R0;have e1:∀x y:Int,(bif false then max x y else min x y)=min x y:=fun _ _=>rfl;have e2:∀x y:Int,(bif true then max x y else min x y)=max x y:=fun _ _=>rfl;simp only[e1,e2];have hk0:∀p:Prop,(r.Count=0/\b8 s<b8 a->L9 s r (b8 a)=max 0 ((l8 r (min (b8 a) 315537897599)-l8 r (b8 s)).tdiv r.Interval-1))/\(¬(r.Count=0/\b8 s<b8 a)->L9 s r (b8 a)=0):=fun _=>⟨fun hh=>if_pos hh,fun hh=>if_neg hh⟩;have hk0:=hk0 True;generalize L9 s r (b8 a)=kz at *;obtain⟨t0,t1⟩:=b3r (d:=l8 r (min (b8 a) 315537897599)-l8 r (b8 s)) (n:=r.Interval);generalize (l8 r (min (b8 a) 315537897599)-l8 r (b8 s)).tdiv r.Interval=td at *;generalize l8 r (min (b8 a) 315537897599)=ia at *;generalize hfi:b8 s=fi at *;generalize l8 r fi=i0 at *;generalize b8 b=tw at *;have yes:∀(y:List Int)(t:Int),((frA s a (y++[t])).length:Int)<=1000->a57 s a y t=true:=fun y t hh=>d5e hh;have no:∀(y:List Int)(t:Int),¬((frA s a (y++[t])).length:Int)<=1000->¬a57 s a y t=true:=fun y t hh e=>hh (d5Q e);refine⟨fun out=>∃y,out=frA s a y/\(out.length:Int)<=1/\a4f (a57 s a) g s r (u9 s.Day) fi tw (P9 r) i0 kz 1 y,⟨fun hfst=>⟨fun hs=>⟨by omega,by show 1*56<=140737488355328;decide,fun hst=>absurd (show((1:Nat):Int)<=1000 by decide) hst,fun _=>?_⟩,fun hs=>⟨fun hst=>absurd (by decide) hst,fun _=>?_⟩⟩,fun hnf=>?_⟩,fun out hn=>⟨fun H8 x=>0<=x/\x<=(r.e9.length:Int)/\H8=if 0<x then b8 (ix r.e9 0)else 315537897600,fun _ x=>((r.e9.length:Int)-x).toNat,⟨d5o 0,by omega,rfl⟩,fun H8 x hx=>⟨fun hlt=>⟨hx.1,hlt,fun _ _ _ _ _ _=>⟨⟨by omega,by omega⟩,⟨by omega,by omega,?_⟩,lt _ _ hlt⟩⟩,fun hge=>?_⟩⟩⟩
 . rw[if_pos hfst.1,d6C,d6a]at R0;have e:=b6p (s:=s) (y:=[]) hs;exact⟨[fi],e.symm,(show((1:Nat):Int)<=1 by decide),⟨R0.go (yes [] fi (by rw[e];show((1:Nat):Int)<=1000;decide))⟩⟩
 . rw[if_pos hfst.1,d6C,d6a]at R0;have e:=c1n (s:=s) (y:=[]) hs;exact⟨[fi],e.symm,(show((0:Nat):Int)<=1 by decide),⟨R0.go (yes [] fi (by rw[e];show((0:Nat):Int)<=1000;decide))⟩⟩
 . rw[if_neg (fun hh=>hnf ⟨hh,s0⟩),d6a]at R0;exact⟨[],rfl,by decide,⟨R0⟩⟩
 . have e:x=0:=by omega
   subst e;rfl
 . have etil:H8=P9 r:=by
     rw[hx.2.2];unfold P9;by_cases hl:0<(r.e9.length:Int)
     . rw[if_pos hl,if_pos (by omega)]
     . rw[if_neg hl,if_neg (by omega)]
   rw[etil];generalize P9 r=H8 at *;refine⟨s0,by omega,w0,w1,fun k=>k=kz,⟨fun hh=>⟨⟨by omega,by omega,w0,w1⟩,⟨by omega,by omega⟩,⟨by omega,by omega,by omega⟩,⟨by omega,by omega⟩,(hk0.1 hh).symm⟩,fun hh=>(hk0.2 hh).symm⟩,fun k hk=>⟨fun c k out=>∃y,out=frA s a y/\(out.length:Int)<=1000/\1<=c/\c<=1+k*1000000000000/\0<=k/\0<=k*r.Interval/\k*r.Interval<=400000000000/\a4f (a57 s a) g s r (u9 s.Day) fi tw H8 i0 k c y,fun _ k _=>(40001-k).toNat,?_,fun c k out hI=>?_⟩⟩
   . obtain⟨y,h1,h2,h3⟩:=hn;subst hk;exact⟨y,h1,by omega,by decide,by omega,z0,z1,by omega,h3⟩
   . obtain⟨y,hy,ol,c0,c1,k0,k1,k2,ho⟩:=hI;refine⟨⟨by omega,by omega⟩,⟨by omega,by omega⟩,by omega,by omega,w0,w1,fun he=>?_,fun he=>⟨fun h4=>?_,fun h4=>⟨hfw,hf,by omega,by omega,fun c' j out'=>∃y,out'=frA s a y/\(out'.length:Int)<=1000/\1<=c'/\c'<=1+k*1000000000000+j/\0<=j/\j<=((B6 s r (u9 s.Day) (i0+k*r.Interval)).length:Int)/\a4l (a57 s a) g s r (u9 s.Day) fi tw H8 i0 k c' ((B6 s r (u9 s.Day) (i0+k*r.Interval)).drop j.toNat) y,fun _ j _=>(((B6 s r (u9 s.Day) (i0+k*r.Interval)).length:Int)-j).toNat,⟨y,hy,ol,c0,by omega,d5o 0,by omega,by simpa using ho.enter he h4⟩,fun c' j out' hI'=>?_⟩⟩⟩
     . have q:=(a9O hpx (ho.fin he)).2 rfl;refine⟨fun hh=>absurd rfl hh,fun _=>⟨fun hl=>absurd hl (by omega),fun hl=>?_⟩⟩;rw[q.2 (by rw[<- hy];omega),hy];exact⟨rfl,rfl⟩
     . have q:=(a9O hpx (ho.many he h4)).1 rfl;rw[q];exact⟨fun _=>⟨.inl a6b,rfl,a5h⟩,fun hh=>absurd (fun e=>by cases e) hh⟩
     . have hcl:=a2P (day:=u9 s.Day) (i:=i0+k*r.Interval) hF (by omega);obtain⟨q0,q1⟩:=b9w hF.rr (k:=k+1) (by omega) (by omega);obtain⟨y,hy,ol,c0,c1,j0,j1,hi⟩:=hI';generalize B6 s r (u9 s.Day) (i0+k*r.Interval)=L at *;refine⟨fun hj=>⟨j0,hj,fun _=>?_⟩,fun hj=>⟨⟨by omega,by omega⟩,⟨y,hy,ol,c0,by omega,by omega,q0,by omega,?_⟩,by show(_:Int).toNat<(_:Int).toNat;omega⟩⟩
       . rw[P4 j0 hj]at hi;refine⟨fun hs=>⟨⟨by omega,by omega⟩,⟨y,hy,ol,c0,by omega,by omega,by omega,hi.skip hs⟩,lt _ _ hj⟩,fun hs=>⟨fun hb=>⟨⟨by omega,by omega⟩,⟨y,hy,ol,c0,by omega,by omega,q0,by omega,hi.leave hs hb⟩,by show(_:Int).toNat<(_:Int).toNat;omega⟩,fun hb=>?_⟩⟩;have hbt:ix L j<tw:=by
          rcases d7P (ix L j) tw with hh|hh
          . exact hh
          . exact absurd (.inl (.inl hh)) hb
         refine⟨⟨by omega,by omega⟩,fun hsa=>?_,fun hsa=>?_⟩
         . have e:=b6p (s:=s) (y:=y) hsa;rw[<- hy]at e;refine⟨by omega,?_,fun hst=>?_,fun hgo=>⟨⟨by omega,by omega⟩,⟨y++[ix L j],e.symm,by omega,by omega,by omega,by omega,by omega,(hi.one hs hb).1 (yes y _ (by rw[e];omega))⟩,lt _ _ hj⟩⟩
           . show(out'.length+1)*56<=140737488355328
             omega
           . have q:=(a9O hpx ((hi.one hs hb).2 (no y _ (by rw[e];exact hst)))).2 rfl;rw[e]at q;refine⟨fun hh=>absurd rfl hh,fun _=>⟨fun hl=>?_,fun hl=>?_⟩⟩
             . rw[q.1 hl];exact⟨rfl,rfl⟩
             . rw[q.2 hl];exact⟨rfl,rfl⟩
         . have e:=c1n (s:=s) (y:=y) hsa;rw[<- hy]at e;exact⟨fun hst=>absurd ol hst,fun hgo=>⟨⟨by omega,by omega⟩,⟨y++[ix L j],e.symm,ol,by omega,by omega,by omega,by omega,(hi.one hs hb).1 (yes y _ (by rw[e];exact ol))⟩,lt _ _ hj⟩⟩
       . rw[d6T (by omega)]at hi;exact hi.nil
def Nex:Env:=d2e.kD 54 (r26.c (r64.c (r26.c (r26.c .n)))) (.acc 26) (.err) (fun y=>[F9 y.2.1=true]) (fun y=>((J9 y.1 y.2.1 y.2.2.1 y.2.2.2.1).1:List Tm)) (fun y=>((J9 y.1 y.2.1 y.2.2.1 y.2.2.2.1).2:o6))
def Nex_ok:c8 Nex:=NI99_ok.kD Tryz.call54 Tryz.func54 (inlHN_ok NI99_ok H0_ok c9o 4) (an:=c9o 54) (fun _=>rfl) fun y ho=>kc (pex y.1 y.2.1 y.2.2.1 y.2.2.2.1 ho.1) (by kernel_rfl)
def d1z:Nat->D3:=fun|10=>⟨15,fun|4=>some ⟨[0],[.slot 3 (.int .i64)]⟩|_=>none,nn⟩|_=>⟨0,nn,nn⟩
def Vno(e:o6)(Q:Int->Prop):Prop:=
(bR (e=o6.nil) (Q 0) (∃(I:Int->Prop),∃(m:Int->Nat),I 1/\∀(x:Int),I x->(bR (x<=16) ((bR (e.is x) (Q x) (c6 (x+1)/\I (x+1)/\m (x+1)<m x))) (Q (-1:Int)))))
def b1k{e:o6}{n:Int}(h:¬e=.nil)(hn:e.num=some n):e.nr=if 1<=n/\n<=16 then n else -1:=by
 cases e with
 |nil=>exact absurd rfl h
 |_=>unfold o6.nr;simp only[hn]
def c02{e:o6}(h:¬e=.nil)(hn:e.num=none):e.nr=-1:=by
 cases e with
 |nil=>exact absurd rfl h
 |_=>unfold o6.nr;simp only[hn]
def pno(e:o6)  : Vno e (fun y0=>y0=e.nr):=by
 unfold Vno;refine⟨fun h=>by subst h;rfl,fun h=>⟨fun x=>1<=x/\x<=17/\∀j:Int,1<=j->j<x->¬e.is j,fun x=>(17-x).toNat,⟨by omega,by omega,fun j _ _=>by omega⟩,?_⟩⟩;rintro x ⟨h0,h1,h2⟩;refine⟨fun hx=>⟨fun hi=>?_,fun hi=>⟨⟨by omega,by omega⟩,⟨by omega,by omega,fun j j0 j1=>?_⟩,by dsimp only;omega⟩⟩,fun hx=>?_⟩
 . have hi:e.num=some x:=hi;rw[b1k h hi,if_pos ⟨h0,hx⟩]
 . by_cases e1:j=x
   . subst e1;exact hi
   . exact h2 j j0 (by omega)
 . cases hn:e.num with
   |none=>rw[c02 h hn]
   |some n=>rw[b1k h hn,if_neg (fun hh=>h2 n hh.1 (by omega) hn)]
def Nno:Env:=Nex.kL 10 (rE.c .n) (.int .i64) (fun _=>[]) (fun y=>y.1.nr)
def Nno_ok:c8 Nno:=Nex_ok.kL Tryz.call10 Tryz.func10 (inlHN_ok Nex_ok H0_ok d1z 2) (an:=d1z 10) (fun _ _=>trivial) fun y ho=>kc (pno y.1 ) (by kernel_rfl)
def b8W:Env:=Nno.z7 178 Tryz.f178
def NI178_ok:c8 b8W:=Nno_ok.z7 Tryz.call178 Tryz.func178
def d0W:Nat->D3:=fun|152=>⟨138,fun|22=>some ⟨[3,4,6,9,10,12,17],[.slot 18 (.int .i64),.own 6 [(.int .i64),(.int .i64),(.int .i64),(.int .i64),(.int .i64),(.int .i64),.bool,.bool]]⟩|26=>some ⟨[3,4,6,9,10,12,17,18,19],[.slot 20 (.int .i64),.own 6 [(.int .i64),(.int .i64),(.int .i64),(.int .i64),(.int .i64),(.int .i64),.bool,.bool]]⟩|16=>some ⟨[3,4,6,9,12,68,69],[.slot 10 (.int .i64),.slot 70 (.int .i64)]⟩|_=>none,nn⟩|98=>⟨171,fun|16=>some ⟨[0,2,3,9,11,14],[.slot 10 (.int .i64),.slot 15 (.int .i64),.own 1000003 [.int .i64]]⟩|23=>some ⟨[0,2,3,9,11,14,15,130,131],[.slot 10 (.int .i64),.slot 132 (.int .i64),.own 1000003 [.int .i64]]⟩|7=>some ⟨[0,1,2,3,9,10,42,43],[.slot 11 (.int .i64),.slot 44 (.int .i64)]⟩|_=>none,fun|5=>some ⟨[0,1,2,3,9,10],[.own 1000003 [.int .i64]]⟩|16=>some ⟨[0,2,3,9,10,11,14],[.slot 15 (.int .i64)]⟩|_=>none⟩|178=>⟨5,nn,nn⟩|_=>⟨0,nn,nn⟩
def a2n(s:Tm)(r:Rl)(x_2:Int):=B6 (j7 s) (M1 r) (u9 (etD s.Day)) (l8 (M1 r) (b8 (j7 s))+x_2*r.Interval)
def b0Q(s:Tm)(r:Rl)(x_4:Int):=B6 (j7 s) (M1 r) (u9 (etD s.Day)) (l8 (M1 r) (b8 (j7 (j7 s)))+x_4*r.Interval)
def b83(r:Rl)(s:Tm):=l8 (M1 r) (bif false then max (0:Int) 315537897599 else min (0:Int) 315537897599)-l8 (M1 r) (b8 (j7 (j7 s)))
def c3S(r:Rl)(x:Int)(s:Tm):=l8 (M1 r) (bif true then max (0:Int) (x-1)else min (0:Int) (x-1))-l8 (M1 r) (b8 (j7 s))
def c03(s:Tm)(r:Rl)(a:Tm):=a0m (j7 s) (M1 r) (u9 (etD s.Day)) (b8 (j7 a)+1)
def c2c(r:Rl)(s:Tm)(x_4:Int):=l8 (M1 r) (b8 (j7 (j7 s)))+x_4*r.Interval
def Vla(s:Tm)(r:Rl)(a:Tm)(Q:Tm->Bool->o6->Prop):Prop:=
F9 (M1 r)=true/\(bR (¬G3 (j7 s) (M1 r)=true∨¬p9 (j7 a)=true) (Q (Tm.mk (Dy.mk 0 0 0) 0 0 0 false false) false (o6.no 2)) (c6 (b8 (j7 a)+1)/\F9 (M1 r)=true/\G3 (j7 s) (M1 r)=true/\(bR (a7L (c03 s r a)≠o6.nil) (((a7L (c03 s r a)).is 5∨a7L (c03 s r a)=o6.nil)/\Q (Tm.mk (Dy.mk 0 0 0) 0 0 0 false false) false (P3 (a7L (c03 s r a)))) ((bR (b8 (j7 a)+1<=b8 (j7 s)) (Q (Tm.mk (Dy.mk 0 0 0) 0 0 0 false false) false o6.nil) ((bR (0<r.Count) (∃(J:Int->Prop),((bR (b8 (j7 (j7 s))<b8 (j7 a)+1/\0<=b8 (j7 (j7 s))) (J (b8 (j7 (j7 s)))) (J (b8 (j7 s)))))/\∀(x:Int),J x->∃(I:Int->Int->Prop),∃(m:Int->Int->Nat),I 315537897600 0/\∀(x_1 x_2:Int),I x_1 x_2->(bR (x_2<(↑r.e9.length:Int)) (0<=x_2/\x_2<(↑r.e9.length:Int)/\(c6 (ix r.e9 x_2).Day.Year->c6 (ix r.e9 x_2).Day.Month->c6 (ix r.e9 x_2).Day.Date->c6 (ix r.e9 x_2).Hour->c6 (ix r.e9 x_2).Min->c6 (ix r.e9 x_2).D8->c6 (x_2+1)/\I (b8 (j7 (ix r.e9 x_2))) (x_2+1)/\m (b8 (j7 (ix r.e9 x_2))) (x_2+1)<m x_1 x_2)) (0<=b8 (j7 (j7 s))/\b8 (j7 (j7 s))<=400000000000/\0<=r.v8/\r.v8<=6/\∃(J:Int->Prop),((bR (r.Count=0/\b8 (j7 (j7 s))<0) (((0<=bif false then max (0:Int) 315537897599 else min (0:Int) 315537897599)/\(bif false then max (0:Int) 315537897599 else min (0:Int) 315537897599)<=400000000000/\0<=r.v8/\r.v8<=6)/\c6 (b83 r s)/\(r.Interval≠0/\c6 ((b83 r s).tdiv r.Interval))/\c6 ((b83 r s).tdiv r.Interval-1)/\J (bif true then max (0:Int) ((b83 r s).tdiv r.Interval-1)else min (0:Int) ((b83 r s).tdiv r.Interval-1))) (J 0)))/\∀(x_3:Int),J x_3->∃(I:Int->Int->Int->Prop),∃(m:Int->Int->Int->Nat),I 1 x_3 x/\∀(x x_4 x_5:Int),I x x_4 x_5->c6 (x_4*r.Interval)/\c6 (c2c r s x_4)/\0<=l8 (M1 r) (b8 (j7 (j7 s)))+x_4*r.Interval/\l8 (M1 r) (b8 (j7 (j7 s)))+x_4*r.Interval<=1000000000000/\0<=r.v8/\r.v8<=6/\(bR (((b8 (j7 a)+1<=C2 (M1 r) (c2c r s x_4)∨x_1<C2 (M1 r) (c2c r s x_4))∨0<r.Count/\r.Count<=x)∨315537897600<=C2 (M1 r) (c2c r s x_4)) (x_5<=9000000000000000000/\(o6.nil.is 5∨o6.nil=o6.nil)/\Q (j7 (L4 x_5 (j7 s))) (decide (o6.nil=o6.nil)) (P3 o6.nil)) ((bR (40000<=x_4) (x_5<=9000000000000000000/\((o6.w (205:Nat) [] (o6.no 5)).is 5∨o6.w (205:Nat) [] (o6.no 5)=o6.nil)/\Q (j7 (L4 x_5 (j7 s))) (decide (o6.w (205:Nat) [] (o6.no 5)=o6.nil)) (P3 (o6.w (205:Nat) [] (o6.no 5)))) (F9 (M1 r)=true/\G3 (j7 s) (M1 r)=true/\0<=l8 (M1 r) (b8 (j7 (j7 s)))+x_4*r.Interval/\l8 (M1 r) (b8 (j7 (j7 s)))+x_4*r.Interval<=999999999999/\∃(I_1:Int->Int->Int->Prop),∃(m_1:Int->Int->Int->Nat),I_1 x 0 x_5/\∀(x_6 x_7 x_8:Int),I_1 x_6 x_7 x_8->(bR (x_7<(↑(b0Q s r x_4).length:Int)) (0<=x_7/\x_7<(↑(b0Q s r x_4).length:Int)/\(c6 (ix (b0Q s r x_4) x_7)->(bR (ix (b0Q s r x_4) x_7<=b8 (j7 (j7 s))) (c6 (x_7+1)/\I_1 x_6 (x_7+1) x_8/\m_1 x_6 (x_7+1) x_8<m_1 x_6 x_7 x_8) ((bR ((b8 (j7 a)+1<=ix (b0Q s r x_4) x_7∨x_1<ix (b0Q s r x_4) x_7)∨0<r.Count/\r.Count<=x_6) (c6 (x_4+1)/\I x_6 (x_4+1) x_8/\m x_6 (x_4+1) x_8<m x x_4 x_5) (c6 (x_6+1)/\c6 (x_7+1)/\I_1 (x_6+1) (x_7+1) (ix (b0Q s r x_4) x_7)/\m_1 (x_6+1) (x_7+1) (ix (b0Q s r x_4) x_7)<m_1 x_6 x_7 x_8)))))) (c6 (x_4+1)/\I x_6 (x_4+1) x_8/\m x_6 (x_4+1) x_8<m x x_4 x_5))))))))) (∃(I:Int->Int->Prop),∃(m:Int->Int->Nat),I (b8 (j7 a)+1) 0/\∀(x x_1:Int),I x x_1->(bR (x_1<(↑r.e9.length:Int)) (0<=x_1/\x_1<(↑r.e9.length:Int)/\(c6 (ix r.e9 x_1).Day.Year->c6 (ix r.e9 x_1).Day.Month->c6 (ix r.e9 x_1).Day.Date->c6 (ix r.e9 x_1).Hour->c6 (ix r.e9 x_1).Min->c6 (ix r.e9 x_1).D8->c6 (b8 (j7 (ix r.e9 x_1))+1)/\c6 (x_1+1)/\I (bif false then max x (b8 (j7 (ix r.e9 x_1))+1)else min x (b8 (j7 (ix r.e9 x_1))+1)) (x_1+1)/\m (bif false then max x (b8 (j7 (ix r.e9 x_1))+1)else min x (b8 (j7 (ix r.e9 x_1))+1)) (x_1+1)<m x x_1)) (0<=b8 (j7 s)/\b8 (j7 s)<=400000000000/\0<=r.v8/\r.v8<=6/\c6 (x-1)/\((0<=bif true then max (0:Int) (x-1)else min (0:Int) (x-1))/\(bif true then max (0:Int) (x-1)else min (0:Int) (x-1))<=400000000000/\0<=r.v8/\r.v8<=6)/\c6 (c3S r x s)/\(r.Interval≠0/\c6 ((c3S r x s).tdiv r.Interval))/\∃(I:Int->Int->Int->Int->Int->Int->Int->Bool->Bool->Prop),∃(m:Int->Int->Int->Int->Int->Int->Int->Bool->Bool->Nat),I ((c3S r x s).tdiv r.Interval) 0 0 0 0 0 0 false false/\∀(x_2 x_3 x_4 x_5 x_6 x_7 x_8:Int)(x_9 x_10:Bool),I x_2 x_3 x_4 x_5 x_6 x_7 x_8 x_9 x_10->(bR (0<=x_2/\b8 (j7 s)<x) (c6 (x_2*r.Interval)/\c6 (l8 (M1 r) (b8 (j7 s))+x_2*r.Interval)/\F9 (M1 r)=true/\G3 (j7 s) (M1 r)=true/\0<=l8 (M1 r) (b8 (j7 s))+x_2*r.Interval/\l8 (M1 r) (b8 (j7 s))+x_2*r.Interval<=999999999999/\c6 ((↑(a2n s r x_2).length:Int)-1)/\∃(I_1:Int->Int->Int->Int->Int->Int->Int->Bool->Bool->Prop),∃(m_1:Int->Int->Int->Int->Int->Int->Int->Bool->Bool->Nat),I_1 ((↑(a2n s r x_2).length:Int)-1) x_3 x_4 x_5 x_6 x_7 x_8 (decide (x_9=true)) (decide (x_10=true))/\∀(x_11 x_12 x_13 x_14 x_15 x_16 x_17:Int)(x_18 x_19:Bool),I_1 x_11 x_12 x_13 x_14 x_15 x_16 x_17 x_18 x_19->(bR (0<=x_11) (0<=x_11/\x_11<(↑(a2n s r x_2).length:Int)/\(c6 (ix (a2n s r x_2) x_11)->(ix (a2n s r x_2) x_11<x->0<=x_11)/\(ix (a2n s r x_2) x_11<x->x_11<(↑(a2n s r x_2).length:Int))/\((ix (a2n s r x_2) x_11<x->c6 (ix (a2n s r x_2) x_11))->(bR (ix (a2n s r x_2) x_11<x/\b8 (j7 s)<ix (a2n s r x_2) x_11) ((0<=x_11/\x_11<(↑(a2n s r x_2).length:Int))/\(c6 (ix (a2n s r x_2) x_11)->ix (a2n s r x_2) x_11<=9000000000000000000)/\(c6 (ix (a2n s r x_2) x_11)->Q (j7 (L4 (ix (a2n s r x_2) x_11) (j7 s))) true o6.nil)) (c6 (x_11-1)/\I_1 (x_11-1) x_12 x_13 x_14 x_15 x_16 x_17 (decide (x_18=true)) (decide (x_19=true))/\m_1 (x_11-1) x_12 x_13 x_14 x_15 x_16 x_17 (decide (x_18=true)) (decide (x_19=true))<m_1 x_11 x_12 x_13 x_14 x_15 x_16 x_17 x_18 x_19))))) (c6 (x_2-1)/\I (x_2-1) x_12 x_13 x_14 x_15 x_16 x_17 (decide (x_18=true)) (decide (x_19=true))/\m (x_2-1) x_12 x_13 x_14 x_15 x_16 x_17 (decide (x_18=true)) (decide (x_19=true))<m x_2 x_3 x_4 x_5 x_6 x_7 x_8 x_9 x_10))) (Q (j7 s) true o6.nil))))))))))))
set_option maxHeartbeats 2000000 in
def pla(s:Tm)(r:Rl)(a:Tm)(hfw:F9 r=true):Vla s r a (fun y0 y1 y2=>y0=(P0 s r a).1/\y1=(P0 s r a).2.1/\y2=(P0 s r a).2.2):=by
 unfold Vla c2c c03 c3S b83 b0Q a2n;simp only[y8,A9,B5];refine⟨hfw,fun h=>?_,fun h=>?_⟩
 . unfold P0;rw[if_pos h];exact⟨rfl,rfl,rfl⟩
 have hf:G3 s r=true:=d4S.1 fun e=>h (.inl e);have ha:p9 a=true:=d4S.1 fun e=>h (.inr e);have hF:=J7.1 hf;obtain⟨px,hpx⟩:∃p,P0 s r a=p:=⟨_,rfl⟩;rw[hpx];unfold P0 at hpx;rw[if_neg h]at hpx;obtain⟨fb,hfb⟩:∃fb,a0m s r (u9 s.Day) (b8 a+1)=fb:=⟨_,rfl⟩;rw[hfb]at hpx ⊢;obtain⟨s0,s1⟩:=y7 hF.rt;obtain⟨g0,g1⟩:=y7 ha;obtain⟨_,_,v0,v1,n0,n1,w0,w1⟩:=(s7.1 hF.rr).head;obtain⟨u1,u2⟩:=(s7.1 hF.rr).H8;have hix:∀x,0<=x->x<315537897600->0<=l8 r x/\l8 r x<=315537897600:=fun x x0 x1=>a4y x0 x1 w0 w1;have lt:∀n i:Int,i<n->(n-(i+1)).toNat<(n-i).toNat:=fun n i h=>by omega
 refine⟨⟨by omega,by omega⟩,hfw,hf,fun he=>?_,fun he=>?_⟩
 . cases fb with
   |false=>exact absurd rfl he
   |true =>
    rw[if_pos rfl]at hpx;rw[<- hpx];exact⟨.inl a6b,rfl,rfl,a5h⟩
 cases fb with
 |true=>exact absurd (fun e=>by cases e) he
 |false =>
 rw[if_neg d5R]at hpx;have hflag:=c0S (day:=u9 s.Day) (fr:=0) hF (d5o 0) hfb;refine⟨fun hle=>?_,fun hle=>?_⟩
 . rw[if_pos hle]at hpx;rw[<- hpx];exact⟨rfl,rfl,rfl⟩
 rw[if_neg hle]at hpx;obtain⟨a0,a1⟩:=hix _ s0 s1;have e1:∀x y:Int,(bif false then max x y else min x y)=min x y:=fun _ _=>rfl;have e2:∀x y:Int,(bif true then max x y else min x y)=max x y:=fun _ _=>rfl;simp only[e1,e2];refine⟨fun hc=>?_,fun hc=>?_⟩
 . obtain⟨g,hg⟩:∃g,a0D (fun _ _=>true) [] (I5 s r (u9 s.Day) 0 (b8 a+1)).1 (I5 s r (u9 s.Day) 0 (b8 a+1)).2=g:=⟨_,rfl⟩;have hgL:g=((I5 s r (u9 s.Day) 0 (b8 a+1)).1,false):=by rw[<- hg,b1p,hflag];rfl
   have R0:a3Z (fun _ _=>true) g [] (I5 s r (u9 s.Day) 0 (b8 a+1)).1 (I5 s r (u9 s.Day) 0 (b8 a+1)).2:=⟨hg⟩;have fin:∀(y:List Int)(e:Bool)(x:Int),g=(y,e)->x=a2z (b8 s) y->e=false/\L4 x s=px.1:=fun y e x h1 h2=>by rw[hgL]at h1;have h3:=(d8d h1).1;rw[h3]at hpx;rw[h2,<- hpx];exact⟨(d8d h1).2.symm,rfl⟩
   have px2:px.2.1=true/\px.2.2=.nil:=by rw[<- hpx];exact⟨rfl,rfl⟩
   clear hpx hgL hg hflag;have ek:L9 s r 0=0:=by unfold L9;rw[if_neg (fun hh=>absurd hh.1 (by omega))]
   unfold I5 at R0;rw[ek]at R0;have lo:∀j:Int,0<=j->LoP r (l8 r (b8 s)+j*r.Interval):=fun j hj=>(R6 (r:=r) s0 s1 w0 w1).up (by have:=d6o hj (show 0<=r.Interval by omega);omega);generalize hfi:b8 s=fi at *;generalize l8 r fi=i0 at *;generalize b8 a+1=tw at *;refine⟨fun x=>x<=315537897600/\∃y,x=a2z fi y/\a4f (fun _ _=>true) g s r (u9 s.Day) fi tw (P9 r) i0 0 1 y,⟨fun hfst=>?_,fun hnf=>absurd ⟨by omega,s0⟩ hnf⟩,fun x hx=>⟨fun H8 z=>0<=z/\z<=(r.e9.length:Int)/\H8=if 0<z then b8 (ix r.e9 0)else 315537897600,fun _ z=>((r.e9.length:Int)-z).toNat,⟨d5o 0,by omega,rfl⟩,fun H8 z hz=>⟨fun hlt=>⟨hz.1,hlt,fun _ _ _ _ _ _=>⟨⟨by omega,by omega⟩,⟨by omega,by omega,?_⟩,lt _ _ hlt⟩⟩,fun hge=>?_⟩⟩⟩
   . rw[if_pos hfst.1,d6C,d6a]at R0;exact⟨by omega,[fi],rfl,⟨R0.go rfl⟩⟩
   . have e:z=0:=by omega
     subst e;rfl
   . have etil:H8=P9 r:=by
       rw[hz.2.2];unfold P9;by_cases hl:0<(r.e9.length:Int)
       . rw[if_pos hl,if_pos (by omega)]
       . rw[if_neg hl,if_neg (by omega)]
     rw[etil];generalize P9 r=H8 at *;refine⟨s0,by omega,w0,w1,fun k=>k=0,⟨fun hh=>absurd hh.1 (by omega),fun _=>rfl⟩,fun k hk=>⟨fun c k x=>x<=315537897600/\1<=c/\c<=r.Count/\0<=k/\k<=40000/\∃y,x=a2z fi y/\a4f (fun _ _=>true) g s r (u9 s.Day) fi tw H8 i0 k c y,fun _ k _=>(40001-k).toNat,?_,fun c k x hI=>?_⟩⟩
     . subst hk;exact⟨hx.1,by decide,by omega,by decide,by decide,hx.2⟩
     . obtain⟨hx1,c0,c1,k0,k1,y,hy,ho⟩:=hI;obtain⟨q0,q1⟩:=b9w hF.rr k0 k1;refine⟨⟨by omega,by omega⟩,⟨by omega,by omega⟩,by omega,by omega,w0,w1,fun he=>?_,fun he=>⟨fun h4=>?_,fun h4=>⟨hfw,hf,by omega,by omega,fun c' j x'=>x'<=315537897600/\1<=c'/\c'<=r.Count/\0<=j/\j<=((B6 s r (u9 s.Day) (i0+k*r.Interval)).length:Int)/\∃y,x'=a2z fi y/\a4l (fun _ _=>true) g s r (u9 s.Day) fi tw H8 i0 k c' ((B6 s r (u9 s.Day) (i0+k*r.Interval)).drop j.toNat) y,fun _ j _=>(((B6 s r (u9 s.Day) (i0+k*r.Interval)).length:Int)-j).toNat,⟨hx1,c0,c1,d5o 0,by omega,y,hy,by simpa using ho.enter he h4⟩,fun c' j x' hI'=>?_⟩⟩⟩
       . obtain⟨_,q⟩:=fin y _ x (ho.fin he) hy;exact⟨by omega,.inr trivial,q,by rw[px2.1];exact d5e trivial,by rw[px2.2];exact b93⟩
       . exact absurd (fin y _ x (ho.many he h4) hy).1 (by decide)
       . have hcl:=a2P (day:=u9 s.Day) (i:=i0+k*r.Interval) hF (by omega);have hce:∀t∈B6 s r (u9 s.Day) (i0+k*r.Interval),t<315537897600:=fun t ht=>a1W hF (lo k k0) ht;obtain⟨hx1,c0,c1,j0,j1,y,hy,hi⟩:=hI';generalize B6 s r (u9 s.Day) (i0+k*r.Interval)=L at *;refine⟨fun hj=>⟨j0,hj,fun _=>?_⟩,fun hj=>⟨⟨by omega,by omega⟩,⟨hx1,c0,c1,by omega,by omega,y,hy,?_⟩,by show(_:Int).toNat<(_:Int).toNat;omega⟩⟩
         . have hL:=hce _ (Y3 j0 hj);rw[P4 j0 hj]at hi;refine⟨fun hs=>⟨⟨by omega,by omega⟩,⟨hx1,c0,c1,by omega,by omega,y,hy,hi.skip hs⟩,lt _ _ hj⟩,fun hs=>⟨fun hb=>⟨⟨by omega,by omega⟩,⟨hx1,c0,c1,by omega,by omega,y,hy,hi.leave hs hb⟩,by show(_:Int).toNat<(_:Int).toNat;omega⟩,fun hb=>?_⟩⟩;have hcc:¬r.Count<=c':=fun e=>hb (.inr ⟨hc,e⟩);exact⟨⟨by omega,by omega⟩,⟨by omega,by omega⟩,⟨by omega,by omega,by omega,by omega,by omega,y++[ix L j],a8T.symm,(hi.one hs hb).1 rfl⟩,lt _ _ hj⟩
         . rw[d6T (by omega)]at hi;exact hi.nil
 . have px2:px=(L4 (a2z (b8 s) (I5 s r (u9 s.Day) 0 (b8 a+1)).1) s,true,.nil):=hpx.symm;clear hpx;refine⟨fun tl z=>0<=z/\z<=(r.e9.length:Int)/\tl=if 0<z then min (b8 a+1) (b8 (ix r.e9 0)+1)else b8 a+1,fun _ z=>((r.e9.length:Int)-z).toNat,⟨d5o 0,by omega,rfl⟩,fun tl z hz=>⟨fun hlt=>⟨hz.1,hlt,fun _ _ _ _ _ _=>?_⟩,fun hge=>?_⟩⟩
   . have e:z=0:=by omega
     subst e;have:=a2b (ix r.e9 0);exact⟨⟨by omega,by omega⟩,⟨by omega,by omega⟩,⟨by omega,by omega,by rw[hz.2.2];rfl⟩,lt _ _ hlt⟩
   . have:=a2b (ix r.e9 0);have hto:∀t,t<tl↔t<b8 a+1/\t<=P9 r:=fun t=>by
      rw[hz.2.2];unfold P9;by_cases hl:0<(r.e9.length:Int)
      . rw[if_pos hl,if_pos (by omega)];omega
      . rw[if_neg hl,if_neg (by omega)];omega
     have tl1:0<=tl/\tl<=315537897600:=by rw[hz.2.2];split <;> omega
     obtain⟨b0,b1⟩:=hix (max 0 (tl-1)) (by omega) (by omega);have hD:=DnI.init (day:=u9 s.Day) (tl:=tl) hF tl1.2;obtain⟨t0,t1⟩:=b3r (d:=l8 r (max 0 (tl-1))-l8 r (b8 s)) (n:=r.Interval);have hkm:b8 s<tl->∀k,0<=k->k<=(l8 r (max 0 (tl-1))-l8 r (b8 s)).tdiv r.Interval->0<=k*r.Interval/\k*r.Interval<=315537897600:=fun h1 k k0 k1=>by have m2:=a0R (r:=r) (t:=b8 s) (u:=max 0 (tl-1)) s0 (by omega) (by omega) w0 w1;rw[d5b (by omega)]at k1;have h3:=d8X (l8 r (max 0 (tl-1))-l8 r (b8 s)) (show r.Interval≠0 by omega);have h4:=a0A v0 k1;have h5:=d6o k0 (show 0<=r.Interval by omega);omega
     generalize (l8 r (max 0 (tl-1))-l8 r (b8 s)).tdiv r.Interval=km at *;refine⟨s0,by omega,w0,w1,⟨by omega,by omega⟩,⟨by omega,by omega,w0,w1⟩,⟨by omega,by omega⟩,⟨by omega,by omega,by omega⟩,fun k _ _ _ _ _ _ _ _=>k<=km/\(k=km ∨ -1<=k)/\DnI s r (u9 s.Day) tl k,fun k _ _ _ _ _ _ _ _=>(k+1).toNat,⟨d5o _,.inl rfl,hD⟩,?_⟩;rintro k _ _ _ _ _ _ _ _ ⟨kk,kl,hk⟩;refine⟨fun hg=>?_,fun hg=>?_⟩
     . obtain⟨q0,q1⟩:=hkm hg.2 k hg.1 kk;have hcl:=a2P (day:=u9 s.Day) (i:=l8 r (b8 s)+k*r.Interval) hF (by omega);have hce:∀t∈B6 s r (u9 s.Day) (l8 r (b8 s)+k*r.Interval),t<315537897600:=fun t ht=>a1W hF ((R6 (r:=r) s0 s1 w0 w1).up (by omega)) ht;have hfd:=fun x h1 h2 h3 h4=>hk.found (x:=x) hF hc hfb hto hg.1 h1 h2 h3 h4;have hst:=hk.step;generalize B6 s r (u9 s.Day) (l8 r (b8 s)+k*r.Interval)=L at *;refine⟨⟨by omega,by omega⟩,⟨by omega,by omega⟩,hfw,hf,by omega,by omega,⟨by omega,by omega⟩,fun x _ _ _ _ _ _ _ _=>-1<=x/\x<(L.length:Int)/\DcI L (b8 s) tl x,fun x _ _ _ _ _ _ _ _=>(x+1).toNat,⟨by omega,by omega,⟨fun i h1 h2=>by omega⟩⟩,?_⟩;rintro x _ _ _ _ _ _ _ _ ⟨x0,x1,hx⟩;refine⟨fun hx0=>⟨hx0,x1,fun _=>⟨fun _=>hx0,fun _=>x1,fun _=>⟨fun hyes=>⟨⟨hx0,x1⟩,fun _=>?_,fun _=>?_⟩,fun hno=>⟨⟨by omega,by omega⟩,⟨by omega,by omega,⟨fun i h1 h2=>?_⟩⟩,?_⟩⟩⟩⟩,fun hx0=>?_⟩
       . have:=hce _ (Y3 hx0 x1);omega
       . rw[px2,hfd x hx hx0 x1 hyes];exact⟨rfl,rfl,rfl⟩
       . by_cases e:i=x
         . subst e;exact hno
         . exact hx.a i (by omega) h2
       . show(_:Int).toNat<(_:Int).toNat
         omega
       . have e:x=-1:=by omega
         subst e;refine⟨⟨by omega,by omega⟩,⟨by omega,.inr (by omega),hst hx⟩,?_⟩;show(_:Int).toNat<(_:Int).toNat
         omega
     . rw[px2,hk.none hF hc hto (by omega) hg,a6o (A8.1 hF.rt)];exact⟨rfl,rfl,rfl⟩
def d3v(s:Tm)(r:Rl)(a:Tm):Q1 U:=⟨[F9 r=true],[],.F5 [.agg [.int .i64 ((P0 s r a).1).Day.Year,.int .i64 ((P0 s r a).1).Day.Month,.int .i64 ((P0 s r a).1).Day.Date,.int .i64 ((P0 s r a).1).Hour,.int .i64 ((P0 s r a).1).Min,.int .i64 ((P0 s r a).1).D8,I4 ((P0 s r a).1).o7,I4 ((P0 s r a).1).UTC],I4 ((P0 s r a).2.1),.err ((P0 s r a).2.2)]⟩
def cla(a:List (SV U)):Option (Q1 U):=match a with|[.agg l_s,.agg l_r,.agg l_a]=>(y26.bk (.agg l_s)).bind fun s=>(y64.bk (.agg l_r)).bind fun r=>(y26.bk (.agg l_a)).bind fun a=>some (d3v s r a)|_=>none
def Nla:Env:=b8W.B3 152 cla
def Nla_ok:c8 Nla:=NI178_ok.B3 Tryz.call152 fun(args:List (SV U)) (q:Q1 U) (h:cla args=some q) ho=>by
 unfold cla at h;split at h
 . rename_i l_s l_r l_a;obtain⟨s,hb_s,h⟩:=d5j.1 h;obtain⟨r,hb_r,h⟩:=d5j.1 h;obtain⟨a,hb_a,h⟩:=d5j.1 h;cases h;refine A4.conv (E:=b8W) (args':=[.agg [.int .i64 s.Day.Year,.int .i64 s.Day.Month,.int .i64 s.Day.Date,.int .i64 s.Hour,.int .i64 s.Min,.int .i64 s.D8,I4 s.o7,I4 s.UTC],.agg [.int .i64 r.l6,.int .i64 r.Interval,.int .i64 r.Count,.sl 26 r.e9,.sl 3 r.Month,.sl 3 r.q7,.sl 3 r.l9,.sl 3 r.j9,.sl 240 r.w9,.sl 3 r.Hour,.sl 3 r.Minute,.sl 3 r.Second,.sl 3 r.y6,.int .i64 r.v8],.agg [.int .i64 a.Day.Year,.int .i64 a.Day.Month,.int .i64 a.Day.Date,.int .i64 a.Hour,.int .i64 a.Min,.int .i64 a.D8,I4 a.o7,I4 a.UTC]]) (c5i (an:=d0W 152) NI178_ok (inlHN_ok NI178_ok H0_ok d0W 4) Tryz.func152 (k1:=.val 26) (k2:=.bool) (k3:=.err) ⟨_,_,rfl,rfl,rfl⟩ trivial (a7g _ _ _) (kc (pla s r a ho.1) (by kernel_rfl)) 0) fun D w vs hr=>O3 [.agg l_s,.agg l_r,.agg l_a] [.agg [.int .i64 s.Day.Year,.int .i64 s.Day.Month,.int .i64 s.Day.Date,.int .i64 s.Hour,.int .i64 s.Min,.int .i64 s.D8,I4 s.o7,I4 s.UTC],.agg [.int .i64 r.l6,.int .i64 r.Interval,.int .i64 r.Count,.sl (N:=U) 26 r.e9,.sl (N:=U) 3 r.Month,.sl (N:=U) 3 r.q7,.sl (N:=U) 3 r.l9,.sl (N:=U) 3 r.j9,.sl (N:=U) 240 r.w9,.sl (N:=U) 3 r.Hour,.sl (N:=U) 3 r.Minute,.sl (N:=U) 3 r.Second,.sl (N:=U) 3 r.y6,.int .i64 r.v8],.agg [.int .i64 a.Day.Year,.int .i64 a.Day.Month,.int .i64 a.Day.Date,.int .i64 a.Hour,.int .i64 a.Min,.int .i64 a.D8,I4 a.o7,I4 a.UTC]] _ ⟨fun _ h=>a1r hb_s h,fun _ h=>a6R hb_r h,fun _ h=>a1r hb_a h,trivial⟩ hr
 . cases h
def d08:Nat->D3:=fun|108=>⟨38,nn,nn⟩|_=>⟨0,nn,nn⟩
def a5H(s:Tm)(r:Rl)(a:Tm):=P0 (j7 s) (M1 r) (j7 a)
def Vli(s:Tm)(r:Rl)(a:Tm)(Q:Bool->o6->Prop):Prop:=
F9 (M1 r)=true/\(bR (¬G3 (j7 s) (M1 r)=true∨¬p9 (j7 a)=true) (Q false (o6.no 2)) (F9 (M1 r)=true/\(bR ((a5H s r a).snd.snd≠o6.nil) (Q false (a5H s r a).snd.snd) (Q (decide ((a5H s r a).snd.fst=true/\((a5H s r a).fst.Day.Year=a.Day.Year/\(a5H s r a).fst.Day.Month=a.Day.Month/\(a5H s r a).fst.Day.Date=a.Day.Date/\True)/\(a5H s r a).fst.Hour=a.Hour/\(a5H s r a).fst.Min=a.Min/\(a5H s r a).fst.D8=a.D8/\((a5H s r a).fst.o7=true↔a.o7=true)/\((a5H s r a).fst.UTC=true↔a.UTC=true)/\True)) o6.nil))))
def b6A(s:Tm)(r:Rl)(t:Tm):(isP s r t).2=.nil∨∃n,(isP s r t).2=.no n:=by
 unfold isP;split
 . exact .inl rfl
 . exact a7g s r t
set_option maxHeartbeats 2000000 in
def pli(s:Tm)(r:Rl)(a:Tm)(hfw:F9 r=true):Vli s r a (fun y0 y1=>y0=(isP s r a).1/\y1=(isP s r a).2):=by
 unfold Vli a5H;simp only[y8,A9,B5,c9V];unfold isP;refine⟨hfw,fun h=>?_,fun h=>⟨hfw,fun h1=>?_,fun h1=>?_⟩⟩
 . have e:P0 s r a=(c3l,false,.no 2):=if_pos h;rw[e,if_neg (fun e=>by cases e)];exact⟨rfl,rfl⟩
 . rw[if_neg h1];exact⟨rfl,rfl⟩
 . rw[if_pos (d4S.1 h1)];exact⟨d5N.2 d7A,rfl⟩
def Nli:Env:=Nla.kM 108 (r26.c (r64.c (r26.c .n))) (.bool) (.err) (fun y=>[F9 y.2.1=true]) (fun y=>((isP y.1 y.2.1 y.2.2.1).1:Bool)) (fun y=>((isP y.1 y.2.1 y.2.2.1).2:o6))
def Nli_ok:c8 Nli:=Nla_ok.kM Tryz.call108 Tryz.func108 (inlHN_ok Nla_ok H0_ok d08 2) (an:=d08 108) (fun _ _=>trivial) (fun y ho=>(b6A _ _ _)) fun y ho=>kc (pli y.1 y.2.1 y.2.2.1 ho.1) (by kernel_rfl)
end Go.Proofs.YtapnoejokajcoaaGreatDoor
namespace Go.Fo
open Go Go.Wk Go.Wl
def letter(c:z6):Prop:=c≠[]/\∀r:z6,Lib.decodeL (c++r)=Lib.decodeL c/\(Lib.decodeL c).2=c.length/\¬((Lib.decodeL c).1=65533/\(Lib.decodeL c).2=1)
def a2O{α:Type}[Inhabited α]{L:List α}{k:Int}(h0:0<=k)(h1:k<L.length):L.take (k+1).toNat=L.take k.toNat++[ix L k]:=by rw[show(k+1).toNat=k.toNat+1 by omega,d6u (by omega),s8 (by omega)]
def w5{α:Type}[Inhabited α]{l:List α}{i:Int}(h0:0<=i)(h1:i<l.length):ix l i∈l:=by rw[s8 (by omega)];exact d6j _
end Go.Fo
namespace Go.Proofs.YtapnoejokajcoaaGreatDoor
open Go Go.Wk Go.Wl Go.Rx Go.Fo Go.Proofs Go.RowKit
def c4d{l:List UInt8}{c:UInt8}(h:∀b∈l,b≠c):Lib.indexByte l c=-1:=by
 induction l with
 |nil=>rfl
 |cons a r ih =>
  unfold Lib.indexByte;rw[if_neg (by simpa using h a (by simp)),ih (fun b hb=>h b (by simp[hb]))];rfl
set_option maxHeartbeats 4000000 in
def c2b(t:ByteArray)(ht:∀b∈t.data.toList,b.toNat<128)(hts:t.size<=1000)(r:Int)(hr:128<=r)(h1:¬r=65533)(hv:Utf8.valid r=true)(w:World) :
  Calls Tryz.prog 213 #[.string t,.int .i32 r] w fun e w'=>e=.returned (.int .i64 (-1))/\∃k,w'={ w with drawn:=k }:=by
 have n1:¬(r<128):=by omega
 have n0:0<=r:=by omega
 have hv2:Lib.validRune r=true:=by rw[<- hv];exact(Go.validRune_eq r).symm
 obtain⟨e2,e4,el⟩:=encode_facts r hv hr;have hcv:∀w,(convert 21 9 (.int .i32 r)).run Tryz.prog w=.ok (.string (Utf8.encode r)) w:=fun w=>run_convert_int_string w 21 9 .i32 r (by rw[Tryz.underlying21];rfl) Tryz.underlying9;generalize Utf8.encode r=rs at e2 e4 el hcv;by_cases hlt:rs.size-1<t.size
 . have hz1:((rs.size:Int)-1)=((rs.size-1:Nat):Int):=by omega
   have hlt2:rs.size-1<rs.size:=by omega
   have hne:¬(((t[rs.size-1]'hlt).toNat:Int)=((rs[rs.size-1]'hlt2).toNat:Int)):=fun e=>by have h1:=ht (t[rs.size-1]'hlt) (by exact Array.getElem_mem_toList (xs:=t.data) hlt);have h2:=el hlt2;omega
   go_enter Tryz.func213,Tryz.ntmps213
   go_wp2_with (go_at_call 234;refine(Tryz.utf8_ValidRune _ _).mono ?_;rintro e w' ⟨rfl,hw⟩;subst hw;rw[hv2])
   go_step3
   go_wp2
   refine d6K 1 ?_;rw[d6q]
   go_wp2
   go_step3
   go_wp2
   go_region
   go_wp2
   have hz2:((rs.size-1:Nat):Int)+1=((rs.size:Nat):Int):=by omega
   have hix:Lib.indexByte (List.take (t.size-rs.size) (List.drop rs.size t.data.toList)) (rs[rs.size-1]'hlt2)=-1:=by refine c4d (fun b hb=>?_);have h1:=ht b (List.mem_of_mem_drop (d8o hb));have h2:=el hlt2;intro e;rw[e]at h1;omega
   have hb1:(((rs.size-1:Nat):Int)+1<=(t.size:Int)):=by omega
   have hb2:rs.size-1+1<=t.size:=by omega
   have hb3:rs.size<=t.size:=by omega
   have hb4:(rs.size:Int)<=(t.size:Int):=by omega
   have hwr:IntKind.i64.wrap (rs.size:Int)=(rs.size:Int):=wrap_small _ (by omega) (by omega)
   go_region_with (first|(go_at_call 233;refine(Tryz.strings_IndexByte _ _ _).mono ?_;rintro e w' ⟨rfl,hw⟩;rw[hw]))
   subst hw
   go_wp2
   rw[Exit.noGoto_ret]
   go_wp2
   rw[Exit.noGoto_ret]
   go_ret
   exact⟨rfl,_,rfl⟩
 . have hc:¬((rs.size:Int)-1<(t.size:Int)):=by omega
   go_enter Tryz.func213,Tryz.ntmps213
   go_wp2_with (go_at_call 234;refine(Tryz.utf8_ValidRune _ _).mono ?_;rintro e w' ⟨rfl,hw⟩;subst hw;rw[hv2])
   go_step3
   go_wp2
   refine d6K 1 ?_;rw[d6q]
   go_wp2
   rw[Exit.noGoto_ret]
   go_ret
   exact⟨rfl,_,rfl⟩
def Ext.iter(w:World)(s:ByteArray)(p:Nat):Ext [] w (w.iter s p):=⟨rfl,rfl,rfl,by show _<=(w.heap.push _).size;rw[d7a];omega,fun b hb _=>by
 show(w.heap.push _)[b]?=_
 rw[d6U,if_neg (by omega)]⟩
set_option maxHeartbeats 4000000 in
def c80(t:ByteArray)(ht:∀b∈t.data.toList,b.toNat<128)(w:World) :
  Calls Tryz.prog 213 #[.string t,.int .i32 65533] w fun e w'=>e=.returned (.int .i64 (-1))/\Ext [] w w':=by
 have HA:Aside (∀b∈t.data.toList,b.toNat<128):=ht;clear ht
 go_enter Tryz.func213,Tryz.ntmps213
 go_wp2
 go_loopg [5,6] t.size (fun g _ _ wx=>∃i:Nat,i+g=t.size/\wx=w.iter t i)
 case atStart=>exact⟨0,by omega,rfl⟩
 case round =>
  obtain⟨i,hig,rfl⟩:=hrel;cases gk with
  |zero =>
   obtain rfl:i=t.size:=by omega
   have hnx:=run_next_end (P:=Tryz.prog) w t t.size
   go_wp2
   go_ret
   exact⟨rfl,Ext.iter _ _ _⟩
  |succ g =>
   have hi:i<t.size:=by omega
   have hx128:(t[i]'hi).toNat<128:=HA.out _ (by exact Array.getElem_mem_toList (xs:=t.data) hi);have hnx:=fun ty=>run_next_ascii (P:=Tryz.prog) w t i ty hi hx128;generalize (t[i]'hi).toNat=x at hx128 hnx;have hne:¬((x:Int)=65533):=by omega
   go_wp2
   go_roundg g
   case measure=>omega
   case rel=>exact⟨i+1,by omega,rfl⟩
set_option maxHeartbeats 4000000 in
def c7p(t:ByteArray)(r:Int)(hr:128<=r)(h1:¬r=65533)(hv:Utf8.valid r=false)(w:World) :
  Calls Tryz.prog 213 #[.string t,.int .i32 r] w fun e w'=>e=.returned (.int .i64 (-1))/\∃k,w'={ w with drawn:=k }:=by
 have n1:¬(r<128):=by omega
 have n0:0<=r:=by omega
 have hv2:Lib.validRune r=false:=by rw[<- hv];exact(Go.validRune_eq r).symm
 go_enter Tryz.func213,Tryz.ntmps213
 go_wp2_with (go_at_call 234;refine(Tryz.utf8_ValidRune _ _).mono ?_;rintro e w' ⟨rfl,hw⟩;subst hw;rw[hv2])
 go_ret
 exact⟨rfl,_,rfl⟩
def Ext.drawn(w:World)(k:Nat):Ext [] w { w with drawn:=k }:=⟨rfl,rfl,rfl,d5m _,fun _ _ _=>rfl⟩
def c81(t:ByteArray)(ht:∀b∈t.data.toList,b.toNat<128)(hts:t.size<=1000)(r:Int)(hr:128<=r)(w:World) :
  Calls Tryz.prog 213 #[.string t,.int .i32 r] w fun e w'=>e=.returned (.int .i64 (-1))/\Ext [] w w':=by
 by_cases h1:r=65533
 . subst h1;exact c80 t ht w
 . cases hv:Utf8.valid r
   . exact(c7p t r hr h1 hv w).mono fun e w' ⟨h,k,hk⟩=>⟨h,by subst hk;exact Ext.drawn _ _⟩
   . exact(c2b t ht hts r hr h1 hv w).mono fun e w' ⟨h,k,hk⟩=>⟨h,by subst hk;exact Ext.drawn _ _⟩
def c1G{P:Program}(wx:World)(p:Nat)(s:ByteArray)(pos:Nat)(ty:TypeId)(hp:wx.heap[p]?=some (.stringIter s pos))(h:pos<s.size) :
  (Instr.next (.pointer (some ⟨p,0,none⟩)) true ty).run P wx =
   .ok (.tuple #[.bool true,.int .i64 pos,.int .i32 (Utf8.decode s pos).1]) { wx with heap:=wx.heap.setIfInBounds p (.stringIter s (pos+(Utf8.decode s pos).2)) }:=by
 simp only[Instr.next,getObj,setObj,d4X,Sem.run,hp,Result.andThen,h,if_true];simp[goInt]
def c10{P:Program}(wx:World)(p:Nat)(s:ByteArray)(pos:Nat)(ty:TypeId)(hp:wx.heap[p]?=some (.stringIter s pos))(h:¬pos<s.size) :
  (Instr.next (.pointer (some ⟨p,0,none⟩)) true ty).run P wx=.ok (.tuple #[.bool false]) wx:=by
 simp[Instr.next,getObj,Sem.run,hp,h]
def At(w:World)(s:ByteArray)(i:Nat)(wx:World):Prop:=wx.heap[w.heap.size]?=some (.stringIter s i)/\Ext [] w wx
def At.start(w:World)(s:ByteArray):At w s 0 (w.iter s 0):=⟨World.iter_heap _ _ _,Ext.iter _ _ _⟩
def At.step{w:World}{s:ByteArray}{i:Nat}{wx:World}(h:At w s i wx)(j:Nat):At w s j { wx with heap:=wx.heap.setIfInBounds w.heap.size (.stringIter s j) }:=by
 obtain⟨h1,h2⟩:=h;have hl:w.heap.size<wx.heap.size:=by apply d6i;intro hc;rw[d6D (by omega)]at h1;cases h1
 refine⟨?_,h2.os,h2.tape,h2.output,by simpa using h2.size,fun b hb hB=>?_⟩
 . simp[hl]
 . show(wx.heap.setIfInBounds _ _)[b]?=_
   rw[d6x (by omega)];exact h2.block b hb hB
def At.ext{w:World}{s:ByteArray}{i:Nat}{wx wy:World}(h:At w s i wx)(e:Ext [] wx wy):At w s i wy:=by
 obtain⟨h1,h2⟩:=h;have hl:w.heap.size<wx.heap.size:=by apply d6i;intro hc;rw[d6D (by omega)]at h1;cases h1
 exact⟨by rw[e.block _ hl (by simp)];exact h1,e.os.trans h2.os,e.tape.trans h2.tape,e.output.trans h2.output,by have:=h2.size;have:=e.size;omega,fun b hb hB=>by rw[e.block b (by omega) hB];exact h2.block b hb hB⟩
def b4I(s:ByteArray)(i:Nat)(h:i<s.size):1<=(Utf8.decode s i).2:=by
 by_cases ha:(s[i]'h).toNat<128
 . rw[decode_ascii s i h ha];exact d5m _
 . exact(decode_high s i h (by omega)).2
def c12{s:ByteArray}{j:Nat}{b:UInt8}(h:s.data.toList[j]?=some b):s.get! j=b:=by
 have hj:j<s.size:=by have:=(d7p.1 h).1;rw[Lib.size_eq];exact this
 have:=get_at s j hj;rw[d6r]at this;rw[this];have e:=Lib.data_getElem? s j hj;rw[e]at h;exact d6g h
def a5I(s:ByteArray)(i:Nat)(h:i<s.size)(ha:128<=(s[i]'h).toNat):i+(Utf8.decode s i).2<=s.size/\∀k,k<(Utf8.decode s i).2->128<=(s.get! (i+k)).toNat:=by
 have h0:128<=(s.get! (i+0)).toNat:=by rw[get_at s i h];exact ha
 have hn:¬(s.get! (i+0)).toNat<128:=by omega
 simp only[Utf8.decode,hn,if_false];have key:∀k,((decide (i+k<s.size) && (s.get! (i+k)).toNat / 64 == 2)=true)->i+k<s.size/\128<=(s.get! (i+k)).toNat:=fun k hk=>by simp only[d4U,d6e,d7V]at hk;exact⟨hk.1,by omega⟩
 repeat' split
 all_goals rename_i c1 c2
 all_goals try simp only[d4U]at c1
 all_goals try simp only[d4U]at c2
 all_goals first
  |(refine⟨h,fun k hk=>?_⟩;obtain rfl:k=0:=(by have:k<1:=hk;omega);exact h0)
  |(simp only[d7V,d6e]at c1;refine⟨by show i+2<=s.size;omega,fun k hk=>?_⟩;have hk2:k<2:=hk;clear hk;rcases(by omega:k=0∨k=1)with rfl|rfl <;> omega)
  |(simp only[d7V,d6e]at c1;refine⟨by show i+3<=s.size;omega,fun k hk=>?_⟩;have hk2:k<3:=hk;clear hk;rcases(by omega:k=0∨k=1∨k=2)with rfl|rfl|rfl <;> omega)
  |(simp only[d7V,d6e]at c1;refine⟨by show i+4<=s.size;omega,fun k hk=>?_⟩;have hk2:k<4:=hk;clear hk;rcases(by omega:k=0∨k=1∨k=2∨k=3)with rfl|rfl|rfl|rfl <;> omega)
def a5y(s:ByteArray)(i:Nat)(h:i<s.size)(ha:128<=(s[i]'h).toNat):i+(Utf8.decode s i).2<=s.size/\∀j b,i<=j->j<i+(Utf8.decode s i).2->s.data.toList[j]?=some b->128<=b.toNat:=by obtain⟨h1,h2⟩:=a5I s i h ha;refine⟨h1,fun j b hij hj hb=>?_⟩;have:=h2 (j-i) (by omega);rw[show i+(j-i)=j by omega,c12 hb]at this;exact this
def b4C{s:ByteArray}{cs:List UInt8}{i:Nat}(hcs:∀b∈cs,b.toNat<128)(h:i<s.size)(ha:128<=(s[i]'h).toNat)(hno:Lib.NoAny s.data.toList cs i):Lib.NoAny s.data.toList cs (i+(Utf8.decode s i).2):=by
 intro j b hj hb;by_cases hji:j<i
 . exact hno j b hji hb
 . have h2:=(a5y s i h ha).2 j b (by omega) hj hb;cases hc:cs.contains b
   . rfl
   . have:=hcs b (by simpa using hc);omega
set_option maxRecDepth 1000000 in
set_option maxHeartbeats 8000000 in
def c0t(s chars:ByteArray)(w:World)(h2:2<=chars.size)(hch:chars.size<=1000)(h8:s.size<=8)(hascii:∀b∈chars.data.toList,b.toNat<128) :
  Calls Tryz.prog 201 #[.string s,.string chars] w fun e w'=>e=.returned (.int .i64 (Lib.indexAny s.data.toList chars.data.toList))/\Ext [] w w':=by
 have HA:Aside (∀b∈chars.data.toList,b.toNat<128):=hascii;clear hascii;have hemp:chars.toList.isEmpty=false:=by
  rw[Lib.toList_data];cases h:chars.data.toList with
  |nil=>have:=Lib.size_eq chars;rw[h,d6b]at this;omega
  |cons _ _=>rfl
 have hn1:((chars.size:Int) == 1)=false:=beq_eq_false_iff_ne.2 (by omega);have h8z:decide ((8:Int)<(s.size:Int))=false:=d5q (by omega)
 go_enter Tryz.func201,Tryz.ntmps201
 go_wp2_with (go_at_call 214;refine(Tryz.strings_shouldUseASCIISet _ _).mono ?_;rintro e w' ⟨rfl,hw⟩;rw[hw,h8z])
 go_loopg [9,10] s.size (fun g _ _ wx=>∃i:Nat,i+g=s.size/\At w s i wx/\Lib.NoAny s.data.toList chars.data.toList i)
 case atStart=>exact⟨0,by omega,At.start _ _,Lib.NoAny.zero _ _⟩
 case round =>
  obtain⟨i,hig,hat,hno⟩:=hrel;have HN:Aside (Lib.NoAny s.data.toList chars.data.toList i):=hno;clear hno;cases gk with
  |zero =>
   obtain rfl:i=s.size:=by omega
   have hnx:=fun ty=>c10 (P:=Tryz.prog) _ w.heap.size s s.size ty hat.1 (by omega)
   go_wp2
   go_ret
   exact⟨by rw[Lib.indexAny_none (by rw[<- Lib.size_eq];exact HN.out)];rfl,hat.2⟩
  |succ g =>
   have hi:i<s.size:=by omega
   have hnx:=fun ty=>c1G (P:=Tryz.prog) _ w.heap.size s i ty hat.1 hi;by_cases hx128:(s[i]'hi).toNat<128
   . rw[decode_ascii s i hi hx128]at hnx;obtain⟨x,hx⟩:∃x:UInt8,s[i]'hi=x:=⟨_,rfl⟩;have hxl:s.data.toList[i]?=some x:=by rw[<- hx];exact Lib.data_getElem? s i hi
     rw[hx]at hnx hx128;have Hx:Aside (s.data.toList[i]?=some x):=hxl;have HT:Aside (At w s i _):=hat;clear hxl hx hat;have hcon:=Lib.contains_iff_indexByte chars.data.toList x;have hback:((x.toNat:Int)).toNat.toUInt8=x:=by simp
     cases hin:chars.data.toList.contains x
     . rw[hin]at hcon;have hlt:¬((0:Int)<=Lib.indexByte chars.data.toList x):=d7i hcon.symm;clear hcon
       go_wp2_with (go_at_call 213;refine(Tryz.strings_IndexRune_ascii _ _ _ (by omega) (by omega)).mono ?_;rintro e w' ⟨rfl,hw⟩;rw[hw,hback])
       go_roundg g
       case measure=>omega
       case rel=>exact⟨i+1,by omega,HT.out.step _,HN.out.succ Hx.out hin⟩
     . rw[hin]at hcon;have hge:(0:Int)<=Lib.indexByte chars.data.toList x:=d5Q hcon.symm;clear hcon
       go_wp2_with (go_at_call 213;refine(Tryz.strings_IndexRune_ascii _ _ _ (by omega) (by omega)).mono ?_;rintro e w' ⟨rfl,hw⟩;rw[hw,hback])
       go_ret
       exact⟨by rw[Lib.indexAny_hit HN.out Hx.out hin];rfl,(HT.out.step _).2⟩
   . have hr:=(decode_high s i hi (by omega)).1;have hsk:=b4C HA.out hi (by omega) HN.out;have hsz:=(a5y s i hi (by omega)).1;have hps:=b4I s i hi;generalize Utf8.decode s i=d at hnx hr hsk hsz hps;obtain⟨r,n⟩:=d;have HS:Aside (Lib.NoAny s.data.toList chars.data.toList (i+n)):=hsk;have HT:Aside (At w s i _):=hat;clear hsk hat
     go_wp2_with (go_at_call 213;refine(c81 chars HA.out hch _ (by show(128:Int)<=(r:Int);exact_mod_cast hr) _).mono ?_;rintro e w' ⟨rfl,hw⟩)
     go_roundg (s.size-(i+n))
     case measure=>omega
     case rel=>exact⟨i+n,by omega,(HT.out.step _).ext hw,HS.out⟩
def d2B(w:World):(zeroValue 282).run Tryz.prog w=.ok (.agg (Array.replicate 256 (.bool false))) w:=a2D (by kernel_rfl) w
def Ext.c8i(w:World)(a b:Obj):Ext [] w ((w.alloc a).alloc b):=⟨rfl,rfl,rfl,by show _<=((w.heap.push _).push _).size;rw[d7a,d7a];omega,fun b hb _=>by
 show((w.heap.push _).push _)[b]?=_
 rw[d6U,if_neg (by simp;omega),d6U,if_neg (by omega)]⟩
def c86(s chars:ByteArray)(w:World)(h2:2<=chars.size)(hch:chars.size<=1000)(hs:s.size<=4000000000)(hascii:∀b∈chars.data.toList,b.toNat<128) :
  Calls Tryz.prog 201 #[.string s,.string chars] w fun e w'=>e=.returned (.int .i64 (Lib.indexAny s.data.toList chars.data.toList))/\Ext [] w w':=by
 by_cases h8:s.size<=8
 . exact c0t s chars w h2 hch h8 hascii
 . exact(Tryz.strings_IndexAny_long d2B s chars w h2 (by omega) (by omega) (by omega) fun j b hb=>hascii b (d5c hb)).mono fun e w' ⟨h,k⟩=>⟨h,by subst k;exact Ext.c8i _ _ _⟩
def a4E(t:List UInt8):∀s:List UInt8,decide (0<=Lib.indexAny s t)=s.any fun c=>t.contains c
 |[]=>rfl
 |b::l=>by
  have ih:=a4E t l;have hg:=Lib.indexAny_ge t l;unfold Lib.indexAny;rw[List.any_cons,<- ih];cases t.contains b
  . simp only[d5Y,if_false,d8C,d7V];apply d5N.2;split <;> omega
  . rfl
set_option maxRecDepth 1000000 in
set_option maxHeartbeats 8000000 in
def c0A(s chars:ByteArray)(w:World)(h2:2<=chars.size)(hch:chars.size<=1000)(hs:s.size<=4000000000)(hascii:∀b∈chars.data.toList,b.toNat<128) :
  Calls Tryz.prog 181 #[.string s,.string chars] w fun e w'=>e=.returned (.bool (s.data.toList.any fun c=>chars.data.toList.contains c))/\Ext [] w w':=by
 rw[<- a4E]
 go_enter Tryz.func181,Tryz.ntmps181
 go_wp2_with (go_at_call 201;refine(c86 _ _ _ h2 hch hs hascii).mono ?_;rintro e w' ⟨rfl,hw⟩)
 go_ret
 exact⟨rfl,hw⟩
#print axioms c0A
end Go.Proofs.YtapnoejokajcoaaGreatDoor
namespace Go.Li
open Go Go.Wk Go.Wl
def Y2(c:UInt8):Bool:=(decide (65<=c) && decide (c<=90)) || (decide (97<=c) && decide (c<=122)) || (decide (48<=c) && decide (c<=57)) || c == 45
def D1(c:UInt8):Bool:=c == 9 || (decide (32<=c) && c != 127)
def upB(c:UInt8):UInt8:=if 97<=c/\c<=122 then c-32 else c
def upper(s:z6):z6:=s.map upB
def a7c(c:UInt8):z6:=if c=94 then [94,94]else if c=34 then [94,39]else if c=10 then [94,110]else [c]
def esc(v:z6):z6:=v.flatMap a7c
def b50(c:UInt8):Bool:=c == 59 || c == 58 || c == 44
def told(v:z6):z6:=if v.any b50=true then 34::(esc v++[34])else esc v
def a4o:List z6->z6
 |[]=>[]
 |[v]=>told v
 |v::l=>told v++44::a4o l
def a6M(x:Param):z6:=59::(x.Name++61::a4o x.p6)
def tell(p:K8):z6:=(if p.E4=[]then p.Name else p.E4++46::p.Name)++p.Params.flatMap a6M++58::p.Value
def isName(s:z6):Prop:=s≠[]/\s.all Y2=true/\upper s=s
def b2T(c:UInt8):Bool:=D1 c || c == 10
def a5g(x:Param):Prop:=isName x.Name/\x.p6≠[]/\∀v∈x.p6,v.all b2T=true
def b0d(p:K8):Prop:=isName p.Name/\(p.E4≠[]->isName p.E4)/\p.Value.all D1=true/\∀x∈p.Params,a5g x
def K1(c:UInt8)(t:z6)(s:z6):z6:=s.flatMap fun d=>if d=c then t else [d]
def a0j(c d:UInt8)(t s:z6):K1 c t (d::s)=(if d=c then t else [d])++K1 c t s:=by simp[K1]
def a9l(c:UInt8)(t a b:z6):K1 c t (a++b)=K1 c t a++K1 c t b:=by simp[K1]
def a8b{c:UInt8}{t:z6}:∀{s:z6},s.count c=0->K1 c t s=s
 |[],_=>rfl
 |d::s,h=>by
  have hd:d≠c:=fun e=>by subst e;simp at h
  have hs:s.count c=0:=by rw[List.count_cons]at h;omega
  rw[a0j,if_neg hd,a8b hs];rfl
def a9z{c:UInt8}(t:z6):∀{s:z6},0<s.count c->∃i:Nat,Lib.indexByte s c=i/\i<s.length/\K1 c t s=s.take i++(t++K1 c t (s.drop (i+1)))/\(s.drop (i+1)).count c+1=s.count c
 |[],h=>by simp at h
 |d::s,h=>by
  by_cases hd:d=c
  . subst hd;exact⟨0,by simp[Lib.indexByte],by simp,by simp[a0j],by simp⟩
  . have hc:(d::s).count c=s.count c:=by rw[List.count_cons_of_ne hd]
    rw[hc]at h;obtain⟨i,h1,h2,h3,h4⟩:=a9z t h;refine⟨i+1,?_,by simp;omega,?_,by rw[hc];exact h4⟩
    . simp only[Lib.indexByte];have hb:(d == c)=false:=by simpa using hd
      simp[hb,hd,h1]
      try omega
    . rw[a0j,if_neg hd,h3];simp
def b34:∀v:z6,K1 10 [94,110] (K1 34 [94,39] (K1 94 [94,94] v))=esc v
 |[]=>rfl
 |c::v=>by
  have ih:=b34 v;have e:esc (c::v)=a7c c++esc v:=by simp[esc]
  rw[e,a0j,a9l,a9l,ih];congr 1;unfold a7c;by_cases h1:c=94
  . subst h1;decide
  . by_cases h2:c=34
    . subst h2;decide
    . by_cases h3:c=10
      . subst h3;decide
      . simp[h1,h2,h3,K1]
def a8Z:∀v:z6,((esc v).any fun c=>[59,58,44].contains c)=v.any b50
 |[]=>rfl
 |c::v=>by
  have ih:=a8Z v;have e:esc (c::v)=a7c c++esc v:=by simp[esc]
  rw[e,List.any_append,ih,List.any_cons];congr 1;unfold a7c b50;by_cases h1:c=94
  . subst h1;decide
  . by_cases h2:c=34
    . subst h2;decide
    . by_cases h3:c=10
      . subst h3;decide
      . simp[h1,h2,h3,Bool.or_assoc];rfl
def a2Z(c:UInt8){t:z6}(ht:t.length=2):∀s:z6,(K1 c t s).length<=2*s.length
 |[]=>d5m _
 |d::s=>by
  have ih:=a2Z c ht s;rw[a0j,d4Y,d5h];split
  . omega
  . simp;omega
def a9G:∀l:List z6,Lib.join (l.map told) [44]=a4o l
 |[]=>rfl
 |[v]=>by simp[Lib.join,a4o]
 |v::u::l=>by have ih:=a9G (u::l);simp only[d6f]at ih ⊢;simp only[Lib.join,a4o];simp;exact ih
open Go.Rx
def d3J(s:z6):o6:=.w 153 s (.no 11)
def nE(s:z6):o6:=if s.takeWhile Y2=[]then d3J [110,97,109,101]else .nil
def L8(p:K8):Bool:=decide (20<p.Params.length) || p.Params.any (fun x=>decide (20<x.p6.length)) || !decide ((p.Params.map Param.Name).Nodup)
open Go.Fo
instance (s:z6):Decidable (isName s):=by unfold isName;infer_instance
def a6h(x:Param):Bool:=decide (isName x.Name) && decide (x.p6≠[]) && x.p6.all fun v=>v.all b2T
def D6(p:K8):Bool:=decide (isName p.Name) && (decide (p.E4=[]) || decide (isName p.E4)) && !L8 p && p.Value.all D1 && p.Params.all a6h
def a5w{x:Param}:a6h x=true↔a5g x:=by unfold a6h a5g;simp only[d4U,d6e,d5D];exact⟨fun⟨⟨a,b⟩,c⟩=>⟨a,b,c⟩,fun⟨a,b,c⟩=>⟨⟨a,b⟩,c⟩⟩
def I2{p:K8}:D6 p=true↔b0d p/\L8 p=false:=by
 unfold D6 b0d;simp only[d4U,d5V,d6e,d6w];have e:p.Params.all a6h=true↔∀x∈p.Params,a5g x:=by rw[d5D];exact⟨fun h x hx=>a5w.1 (h x hx),fun h x hx=>a5w.2 (h x hx)⟩
 rw[e];constructor
 . rintro⟨⟨⟨⟨a,b⟩,c⟩,d⟩,e⟩;exact⟨⟨a,fun h=>b.resolve_left h,d,e⟩,c⟩
 . rintro⟨⟨a,b,d,e⟩,c⟩;refine⟨⟨⟨⟨a,?_⟩,c⟩,d⟩,e⟩;by_cases h:p.E4=[]
   . exact .inl h
   . exact .inr (b h)
def a0z(p:K8):z6×o6:=if D6 p=true then(tell p,.nil)else([],.no 2)
structure c8w(x:Param):Prop where
 name:x.Name.length<=5000
 d4Q:x.p6.length<=5000
 val:∀v∈x.p6.take 31,v.length<=5000
structure A0(p:K8):Prop where
 name:p.Name.length<=100000
 group:p.E4.length<=5000
 value:p.Value.length<=5000
 params:p.Params.length<=5000
 param:∀x∈p.Params,c8w x
def a5a{p:K8}(h:A0 p)(hm:L8 p=false){x:Param}(hx:x∈p.Params):x.p6.length<=20/\∀v∈x.p6,v.length<=5000:=by
 have h1:x.p6.length<=20:=by unfold L8 at hm;simp only[Bool.or_eq_false_iff,d8J,d6e]at hm;have:=hm.1.2 x hx;omega
 refine⟨h1,fun v hv=>(h.param x hx).val v ?_⟩;rw[d5z (by omega)];exact hv
def a4r{p:K8}(hm:L8 p=false):p.Params.length<=20:=by unfold L8 at hm;simp only[Bool.or_eq_false_iff,d7X]at hm;omega
def b3l:∀s:z6,(esc s).length<=2*s.length
 |[]=>d5m _
 |c::s=>by
  have ih:=b3l s;have e:esc (c::s)=a7c c++esc s:=by simp[esc]
  have:(a7c c).length<=2:=by unfold a7c;split <;> (try split) <;> (try split) <;> simp
  rw[e,d4Y,d5h];omega
def b2r(v:z6):(told v).length<=2*v.length+2:=by
 have:=b3l v;unfold told;split
 . simp only[d5h,d4Y,d6b];omega
 . omega
def a9L{k:Nat}:∀{l:List z6},(∀v∈l,v.length<=k)->(a4o l).length<=l.length*(2*k+3)
 |[],_=>d6B _
 |[v],h=>by have:=b2r v;have:=h v (by simp);simp only[a4o,d5h,d6b];omega
 |v::w::l,h=>by have ih:=a9L (k:=k) (l:=w::l) fun x hx=>h x (by simp[hx]);have:=b2r v;have:=h v (by simp);simp only[a4o,d4Y,d5h]at ih ⊢;have e:(l.length+1+1)*(2*k+3)=(l.length+1)*(2*k+3)+(2*k+3):=Nat.succ_mul _ _;rw[e];omega
def a97{p:K8}(h:A0 p)(hm:L8 p=false){x:Param}(hx:x∈p.Params):(a4o x.p6).length<=200060/\(a6M x).length<=210000:=by obtain⟨h1,h2⟩:=a5a h hm hx;have h3:=a9L h2;have h4:x.p6.length*(2*5000+3)<=20*(2*5000+3):=d5s _ h1;have h5:=(h.param x hx).name;unfold a6M;simp only[d5h,d4Y];omega
def K9{α:Type}{f:α->z6}{k:Nat}:∀{l:List α},(∀x∈l,(f x).length<=k)->(l.flatMap f).length<=l.length*k
 |[],_=>d6B _
 |x::l,h=>by have ih:=K9 (f:=f) (k:=k) (l:=l) fun y hy=>h y (by simp[hy]);have:=h x (by simp);rw[d7l,d4Y,d5h,Nat.succ_mul];omega
def says(l:List z6):K8:=⟨[],[65],[⟨[88],l⟩],[118]⟩
end Go.Li
namespace Go.Qu
open Go Go.Wk Go.Wl Go.Li
def b3w(c:UInt8)(t:z6):∀(k:Nat)(s:z6),s.count c=k->Lib.replaceK [c] t k s=K1 c t s
 |0,s,h=>by rw[a8b h];rfl
 |k+1,s,h=>by
  obtain⟨i,h1,h2,h3,h4⟩:=a9z t (s:=s) (c:=c) (by omega);rw[Lib.replaceK_hit [c] t k s i (by rw[Lib.index_one];exact h1),h3];have e:(s.drop (i+1)).count c=k:=by omega
  show _++_++Lib.replaceK [c] t k (s.drop (i+1))=_
  rw[b3w c t k _ e,d5x]
def c4l{c:UInt8}{t:z6}(h:t≠[c])(s:z6):Lib.replaceAll s [c] t=K1 c t s:=by unfold Lib.replaceAll Lib.replace;rw[if_neg (by simpa using d6l h)];unfold Lib.replaceNum;rw[if_pos (.inl (by decide)),Lib.count_one];exact b3w c t _ s rfl
end Go.Qu
namespace Go.Proofs.YtapnoejokajcoaaGreatDoor
open Go Go.Wk Go.Wl Go.Rx Go.Re Go.Li Go.Qu Go.Proofs Go.RowKit
def c3V{x:Bool}{Z:Nat->Prop}{w:World}:e7 U eT (fun _=>none) Z w (.bool x) (I4 x):=by
 have e:x=decide (x=true):=by cases x <;> rfl
 have r:e7 U eT (fun _=>none) Z w (.bool (decide (x=true))) (I4 x):=.bl
 rwa [<- e]at r
def cCA(a:List (SV U)):Option (Q1 U):=match a with|[.str s,.str t]=>some ⟨[s.length<=4000000000,t=[59,58,44]],[],I4 (s.any fun c=>t.contains c)⟩|_=>none
def cCA_ok(args:List (SV U))(q:Q1 U)(h:cCA args=some q)(ho:q9 q.ob):A4 E0 181 args ⟨q.ob,q.hy,q.v,[]⟩:=by
 unfold cCA at h;split at h
 . rename_i s t;cases h;obtain⟨hs,ht,-⟩:=ho;refine b2Q fun D w vs ha=>⟨.bool (s.any fun c=>t.contains c),fun w'=>c3V,trivial,fun w1 hs1=>?_⟩;obtain⟨v1,r1,rfl,h1,ha⟩:=e7.w4 ha;obtain⟨v2,r2,rfl,h2,ha⟩:=e7.w4 ha;obtain rfl:=V0 ha;cases h1 with|str hl1 =>
   cases h2 with|str hl2 =>
   have h2:2<=t.length/\t.length<=1000/\∀b∈t,b.toNat<128:=by rw[ht];decide
   exact d6d (c0A ⟨s.toArray⟩ ⟨t.toArray⟩ w1 h2.1 h2.2.1 hs h2.2.2) fun e w2 ⟨h3,h4⟩=>⟨h3,h4⟩
 . cases h
def b94(l:List z6)(t:z6)(D:Nat->Prop)(w w1:World)(hs:F8 w w1)(v:Value)(hv:(p7 a0b).rd D w [v] l)(h1:(Lib.join l t).length<=140737488355328)(h2:l.length<=140737488355328) :
  Calls Tryz.prog 160 #[v,sv t] w1 fun e w'=>e=.returned (.string ⟨(Lib.join l t).toArray⟩)/\Ext [] w w':=by
 obtain⟨_,A,cap,e,⟨_,hcap⟩,hc⟩:=hv;simp only[d6Z,and_true]at e;subst e;cases l with
 |nil =>
  refine d6d (Tryz.strings_Join_none A cap ⟨t.toArray⟩ w1) fun e w2 ⟨g1,g2⟩=>?_;subst g2;exact⟨g1,a4i hs (Ext.refl _ _)⟩
 |cons x l =>
  obtain⟨b,o,c,eA,hb,hcell,hrd⟩:=hc 0 (by simp);subst eA;obtain⟨xs,hxs⟩:∃xs:List ByteArray,xs=(x::l).map fun s=>⟨s.toArray⟩:=⟨_,rfl⟩;have exs:xs.map (·.data.toList)=x::l:=by
   rw[hxs,List.map_map];have:((fun b:ByteArray=>b.data.toList) ∘ fun s:z6=>(⟨s.toArray⟩:ByteArray))=id:=by funext s;simp
   rw[this,List.map_id]
  have el:xs.length=(x::l).length:=by rw[hxs,d6h]
  have hcells:∀(j:Nat) y,xs[j]?=some y->w1.cell? ⟨b,o+j,none⟩=some (.string y):=fun j y hy=>by
   rw[F8.cell hs];have hj:j<(x::l).length:=by have:=(d7p.1 hy).1;omega
   obtain⟨b',o',c',eA',_,hcell',hrd'⟩:=hc j hj;simp only[d4T,Addr.mk.injEq]at eA';obtain⟨rfl,rfl,-⟩:=eA';have hc1:=hrd'.1;subst hc1;obtain⟨C,T,z,hh,hC⟩:=hcell';have:=hC 0 (by simp);have e1:o+j*a0b.sz+0=o+j:=by show o+j*1+0=o+j;omega
   rw[e1]at this;have ey:y=⟨((x::l)[j]).toArray⟩:=by have h:=(d7p.1 hy).2;subst hxs;rw[<- h,d7g]
   rw[ey];unfold World.cell?;simp only[hh];simpa[sv]using this
  have hbk:b<w1.heap.size:=by obtain⟨k,rfl⟩:=hs;exact hcell.lt
  have run:=Tryz.strings_Join b o cap xs ⟨t.toArray⟩ w1 hcells hbk (by omega) (by omega) (by rw[exs];exact h1);rw[exs,el]at run;exact d6d run fun e w2 ⟨g1,g2⟩=>⟨g1,a2K hs g2⟩
def cJo(a:List (SV U)):Option (Q1 U):=match a with|[.sl 9 l,.str t]=>some ⟨[(Lib.join l t).length<=140737488355328,List.length (α:=z6) l<=140737488355328],[],.str (Lib.join l t)⟩|_=>none
def cJo_ok(args:List (SV U))(q:Q1 U)(h:cJo args=some q)(ho:q9 q.ob):A4 E0 160 args ⟨q.ob,q.hy,q.v,[]⟩:=by
 unfold cJo at h;split at h
 . rename_i l t;cases h;obtain⟨h1,h2,-⟩:=ho;intro D w vs _ _ ha;obtain⟨v1,r1,rfl,hv1,ha⟩:=e7.w4 ha;obtain⟨v2,r2,rfl,hv2,ha⟩:=e7.w4 ha;obtain rfl:=V0 ha;cases hv1 with|sl hv1 =>
   cases hv2 with|str hl2 =>
   intro w1 hs;exact d6d (b94 l t D w w1 hs v1 hv1 h1 h2) fun e w2 ⟨g1,g2⟩=>⟨_,w2,g1,F8.refl _,g2,.str (by have h1:(Lib.join l t).length<=140737488355328:=h1;omega),trivial⟩
 . cases h
def cRA(a:List (SV U)):Option (Q1 U):=match a with|[.str s,.str [c],.str t]=>some ⟨[s.length<=1000000000,t.length=2],[],.str (K1 c t s)⟩|_=>none
def cRA_ok(args:List (SV U))(q:Q1 U)(h:cRA args=some q)(ho:q9 q.ob):A4 E0 180 args ⟨q.ob,q.hy,q.v,[]⟩:=by
 unfold cRA at h;split at h
 . rename_i s c t;cases h;obtain⟨h1,h2,-⟩:=ho;have h1:s.length<=1000000000:=h1;have h2:t.length=2:=h2;intro D w vs _ hg ha;obtain⟨v1,r1,rfl,hv1,ha⟩:=e7.w4 ha;obtain⟨v2,r2,rfl,hv2,ha⟩:=e7.w4 ha;obtain⟨v3,r3,rfl,hv3,ha⟩:=e7.w4 ha;obtain rfl:=V0 ha;cases hv1 with|str hl1 =>
   cases hv2 with|str hl2 =>
   cases hv3 with|str hl3 =>
   intro w1 hs;obtain⟨m,hm⟩:=hg.2.2.2;rw[<- F8.cell hs]at hm;have hc:Lib.countB (⟨s.toArray⟩:ByteArray) ⟨[c].toArray⟩<=s.length:=Lib.countB_le ⟨[c].toArray⟩ (d5m _) s.length ⟨s.toArray⟩ (d8S (a0p s));have e1:(⟨s.toArray⟩:ByteArray).size=s.length:=a0p s;have e2:(⟨t.toArray⟩:ByteArray).size=2:=by rw[<- h2];exact a0p t
   refine d6d (Tryz.strings_ReplaceAll ⟨s.toArray⟩ ⟨[c].toArray⟩ ⟨t.toArray⟩ m w1 (by omega) hm (d5m _) (by rw[e1,e2];omega)) fun e w2 ⟨g1,g2⟩=>?_;have er:Lib.replaceAll s [c] t=K1 c t s:=c4l (fun e=>by rw[e]at h2;cases h2) s;have g1:e=.returned (.string ⟨(Lib.replaceAll s [c] t).toArray⟩):=g1;rw[er]at g1;have l:=a2Z c h2 s;exact⟨_,w2,g1,F8.refl _,a2K hs g2,.str (by omega),trivial⟩
 . cases h
def NLB:Env:=((Nli.B3 181 cCA).B3 160 cJo).B3 180 cRA
def NLB_ok:c8 NLB:=(((Nli_ok).B3 Tryz.call181 cCA_ok).B3 Tryz.call160 cJo_ok).B3 Tryz.call180 cRA_ok
end Go.Proofs.YtapnoejokajcoaaGreatDoor
section
namespace Go.Proofs.YtapnoejokajcoaaGreatDoor
open Go Go.Wk Go.Wl Go.Rx Go.Re Go.Li Go.Qu Go.Fo 
def b0n(a b:UInt8):(a == b)=decide (a=b):=by
 by_cases h:a=b
 . subst h;simp
 . simp[h]
attribute [local irreducible] j4
def c5a:Nat->D3:=fun|121=>⟨29,nn,nn⟩|_=>⟨0,nn,nn⟩
def d0A(c:UInt8)(Q:Bool->Prop):Prop:=
Q (decide ((((65:UInt8)<=c/\c<=90∨(97:UInt8)<=c/\c<=122)∨(48:UInt8)<=c/\c<=57)∨c=45))
def d4u(c:UInt8)  : d0A c (fun y0=>y0=Y2 c):=by unfold d0A Y2;rw[b0n];simp only[Bool.decide_or,Bool.decide_and]
def c9p:Env:=NLB.kL 121 (rY.c .n) (.bool) (fun _=>[]) (fun y=>Y2 y.1)
def N112_ok:c8 c9p:=NLB_ok.kL Tryz.call121 Tryz.func121 (inlHN_ok NLB_ok H0_ok c5a 2) (an:=c5a 121) (fun _ _=>trivial) fun y ho=>kc (d4u y.1 ) (by kernel_rfl)
end Go.Proofs.YtapnoejokajcoaaGreatDoor
end
namespace Go.Proofs.YtapnoejokajcoaaGreatDoor
open Go Go.Wk Go.Wl Go.Rx Go.Re Go.Li Go.Qu Go.Fo 
attribute [local irreducible] j4
def c5e:Nat->D3:=fun|125=>⟨13,nn,nn⟩|_=>⟨0,nn,nn⟩
def d0X(c:UInt8)(Q:Bool->Prop):Prop:=
Q (decide (c=9∨(32:UInt8)<=c/\c≠127))
def d3o(c:UInt8)  : d0X c (fun y0=>y0=D1 c):=by unfold d0X D1;rw[bne,b0n,b0n];simp only[Bool.decide_or,Bool.decide_and,ne_eq,decide_not]
def d00:Env:=c9p.kL 125 (rY.c .n) (.bool) (fun _=>[]) (fun y=>D1 y.1)
def N105_ok:c8 d00:=N112_ok.kL Tryz.call125 Tryz.func125 (inlHN_ok N112_ok H0_ok c5e 2) (an:=c5e 125) (fun _ _=>trivial) fun y ho=>kc (d3o y.1 ) (by kernel_rfl)
def d2c:Nat->D3:=fun|122=>⟨29,fun|3=>some ⟨[3,8,9],[.slot 10 (.int .i64),.cont 3 5]⟩|_=>none,nn⟩|_=>⟨0,nn,nn⟩
def Vup(s:z6)(Q:z6->Prop):Prop:=
∃(I:Int->List UInt8->Prop),∃(m:Int->List UInt8->Nat),I 0 s/\∀(x:Int)(x_1:List UInt8),I x x_1->(bR (x<(↑(List.length s):Int)) (0<=x/\x<(↑x_1.length:Int)/\(bR ((97:UInt8)<=ix x_1 x/\ix x_1 x<=122) (0<=x/\x<(↑x_1.length:Int)/\c6 (x+1)/\I (x+1) (x_1.set x.toNat (ix x_1 x-32))/\m (x+1) (x_1.set x.toNat (ix x_1 x-32))<m x x_1) (c6 (x+1)/\I (x+1) x_1/\m (x+1) x_1<m x x_1))) (Q x_1))
def c7T{α:Type}[Inhabited α]{s:List α}{i:Int}(h0:0<=i)(h1:i<s.length):∃a r,s=a++ix s i::r/\a.length=i.toNat:=
 ⟨s.take i.toNat,s.drop (i.toNat+1),by rw[s8 (by omega),<- d6E,d7j],by rw[d5n];omega⟩
def pup(s:z6)(hl:s.length<=9223372036854775807):Vup s (fun y0=>y0=upper s):=by
 unfold Vup;refine⟨fun i l=>0<=i/\i<=s.length/\l=(s.take i.toNat).map upB++s.drop i.toNat,fun i _=>((s.length:Int)-i).toNat,⟨by omega,by omega,by simp⟩,?_⟩;rintro i l ⟨i0,i1,rfl⟩;refine⟨fun hi=>?_,fun hi=>?_⟩
 . obtain⟨a,r,hs,ha⟩:=c7T i0 hi;generalize ix s i=c at hs;have en:(i+1).toNat=a.length+1:=by omega
   have e1:s.take i.toNat=a:=by rw[hs,<- ha];simp
   have e2:s.drop i.toNat=c::r:=by rw[hs,<- ha];simp
   have e3:s.take (i+1).toNat=a++[c]:=by rw[hs,en,List.take_append,d5z (by omega)];simp
   have e4:s.drop (i+1).toNat=r:=by rw[hs,en,List.drop_append];simp
   have el:(a.map upB++c::r).length=s.length:=by rw[hs];simp
   have ec:ix (a.map upB++c::r) i=c:=by unfold ix;rw[<- ha];simp
   have es:∀v,(a.map upB++c::r).set i.toNat v=a.map upB++v::r:=fun v=>by rw[<- ha];simp
   rw[e1,e2];dsimp only;rw[e3,e4,ec,el,es];refine⟨i0,hi,fun h=>⟨i0,hi,⟨by omega,by omega⟩,⟨by omega,by omega,?_⟩,by omega⟩,fun h=>⟨⟨by omega,by omega⟩,⟨by omega,by omega,?_⟩,by omega⟩⟩
   . rw[d7v,List.map_singleton,d5x];unfold upB;rw[if_pos h];rfl
   . rw[d7v,List.map_singleton,d5x];unfold upB;rw[if_neg h];rfl
 . rw[d5z (by omega),d6t (by omega),d5C];rfl
def Nup:Env:=d00.kL 122 (rS.c .n) (.str) (fun y=>[List.length (α:=UInt8) y.1<=9223372036854775807]) (fun y=>upper y.1)
def Nup_ok:c8 Nup:=N105_ok.kL Tryz.call122 Tryz.func122 (inlHN_ok N105_ok H0_ok d2c 2) (an:=d2c 122) (fun _ _=>trivial) fun y ho=>kc (pup y.1 ho.1) (by kernel_rfl)
def c99:Nat->D3:=fun|73=>⟨23,fun|2=>some ⟨[0,5],[.slot 6 (.int .i64)]⟩|_=>none,nn⟩|_=>⟨0,nn,nn⟩
def V73(s:z6)(Q:Bool->Prop):Prop:=
∃(I:Int->Prop),∃(m:Int->Nat),I 0/\∀(x:Int),I x->(bR (x<(↑(List.length s):Int)) (0<=x/\x<(↑(List.length s):Int)/\(bR (¬Y2 (ix s x)=true) (Q false) (c6 (x+1)/\I (x+1)/\m (x+1)<m x))) ((s≠[]->List.length s<=9223372036854775807)/\Q (decide (s≠[]/\s=upper s))))
def a2a(s:z6):Bool:=decide (s≠[]/\s.all Y2=true/\upper s=s)
def b53{p:UInt8->Bool}{s:z6}(h:∀j:Int,0<=j->j<s.length->p (ix s j)=true):s.all p=true:=by rw[d5D];intro c hc;obtain⟨j,hj,rfl⟩:=d5w hc;have:=h j (by omega) (by omega);rw[s8 (by simpa using hj)]at this;simpa using this
def b0H{p:UInt8->Bool}{s:z6}{x:Int}(h0:0<=x)(h1:x<s.length)(h:¬p (ix s x)=true):¬s.all p=true:=fun e=>h (d5D.1 e _ (w5 h0 h1))
def p73(s:z6)(hs:s.length<=9223372036854775807):V73 s (fun y0=>y0=a2a s):=by
 unfold V73;refine⟨fun x=>0<=x/\x<=s.length/\∀j:Int,0<=j->j<x->Y2 (ix s j)=true,fun x=>((s.length:Int)-x).toNat,⟨by omega,by omega,fun j _ _=>by omega⟩,?_⟩;rintro x ⟨x0,x1,hx⟩;refine⟨fun hi=>⟨x0,hi,fun hn=>?_,fun hn=>⟨⟨by omega,by omega⟩,⟨by omega,by omega,fun j j0 j1=>?_⟩,by dsimp only;omega⟩⟩,fun hi=>?_⟩
 . exact(d5q fun h=>b0H x0 hi hn h.2.1).symm
 . by_cases e:j=x
   . subst e;exact d4S.1 hn
   . exact hx j j0 (by omega)
 . have ha:s.all Y2=true:=b53 fun j j0 j1=>hx j j0 (by omega);refine⟨fun _=>hs,?_⟩;show _=decide _
   exact d5N.2 ⟨fun⟨a,b⟩=>⟨a,ha,b.symm⟩,fun⟨a,_,b⟩=>⟨a,b.symm⟩⟩
def N73:Env:=Nup.kL 73 (rS.c .n) (.bool) (fun y=>[List.length (α:=UInt8) y.1<=9223372036854775807]) (fun y=>a2a y.1)
def N73_ok:c8 N73:=Nup_ok.kL Tryz.call73 Tryz.func73 (inlHN_ok Nup_ok H0_ok c99 2) (an:=c99 73) (fun _ _=>trivial) fun y ho=>kc (p73 y.1 ho.1) (by kernel_rfl)
def c8Q:Nat->D3:=fun|75=>⟨27,fun|2=>some ⟨[0,1,7],[.slot 8 (.int .i64)]⟩|_=>none,nn⟩|_=>⟨0,nn,nn⟩
def V74(s:z6)(a:Bool)(Q:Bool->Prop):Prop:=
∃(I:Int->Prop),∃(m:Int->Nat),I 0/\∀(x:Int),I x->(bR (x<(↑(List.length s):Int)) (0<=x/\x<(↑(List.length s):Int)/\(¬D1 (ix s x)=true/\a=true->0<=x)/\(¬D1 (ix s x)=true/\a=true->x<(↑(List.length s):Int))/\(bR (¬D1 (ix s x)=true/\¬(a=true/\ix s x=10)) (Q false) (c6 (x+1)/\I (x+1)/\m (x+1)<m x))) (Q true))
def R5(a:Bool)(s:z6):Bool:=s.all fun c=>D1 c || (a && c == 10)
def p74(s:z6)(a:Bool)(hs:s.length<=9223372036854775807):V74 s a (fun y0=>y0=R5 a s):=by
 unfold V74;refine⟨fun x=>0<=x/\x<=s.length/\∀j:Int,0<=j->j<x->(fun c=>D1 c || (a && c == 10)) (ix s j)=true,fun x=>((s.length:Int)-x).toNat,⟨by omega,by omega,fun j _ _=>by omega⟩,?_⟩;rintro x ⟨x0,x1,hx⟩;have key:(fun c=>D1 c || (a && c == 10)) (ix s x)=true↔¬(¬D1 (ix s x)=true/\¬(a=true/\ix s x=10)):=by
  simp only[d5V,d4U,d7V];constructor
  . rintro(h|h) ⟨h1,h2⟩
    . exact h1 h
    . exact h2 h
  . intro h;by_cases h1:D1 (ix s x)=true
    . exact .inl h1
    . exact .inr (d4S.1 fun h2=>h ⟨h1,h2⟩)
 refine⟨fun hi=>⟨x0,hi,fun _=>x0,fun _=>hi,fun hn=>?_,fun hn=>⟨⟨by omega,by omega⟩,⟨by omega,by omega,fun j j0 j1=>?_⟩,by dsimp only;omega⟩⟩,fun hi=>?_⟩
 . have:=b0H (p:=fun c=>D1 c || (a && c == 10)) x0 hi (fun h=>key.1 h hn);unfold R5;cases hh:(List.all s fun c=>D1 c || (a && c == 10))
   . rfl
   . exact absurd hh this
 . by_cases e:j=x
   . subst e;exact key.2 hn
   . exact hx j j0 (by omega)
 . exact(b53 fun j j0 j1=>hx j j0 (by omega)).symm
def N74:Env:=N73.kL 75 (rS.c (rbo.c .n)) (.bool) (fun y=>[List.length (α:=UInt8) y.1<=9223372036854775807]) (fun y=>R5 y.2.1 y.1)
def N74_ok:c8 N74:=N73_ok.kL Tryz.call75 Tryz.func75 (inlHN_ok N73_ok H0_ok c8Q 2) (an:=c8Q 75) (fun _ _=>trivial) fun y ho=>kc (p74 y.1 y.2.1 ho.1) (by kernel_rfl)
def c5U:Env:=N74.z7 158 Tryz.f158
def NI158_ok:c8 c5U:=N74_ok.z7 Tryz.call158 Tryz.func158
def c5V:Env:=c5U.z7 123 Tryz.f123
def NI123_ok:c8 c5V:=NI158_ok.z7 Tryz.call123 Tryz.func123
def c4E:Env:=c5V.z7 124 Tryz.f124
def NI124_ok:c8 c4E:=NI123_ok.z7 Tryz.call124 Tryz.func124
def c5p:Env:=c4E.z7 126 Tryz.f126
def NI126_ok:c8 c5p:=NI124_ok.z7 Tryz.call126 Tryz.func126
def c9U:Env:=c5p.z7 76 Tryz.f76
def NI76_ok:c8 c9U:=NI126_ok.z7 Tryz.call76 Tryz.func76
def d1M:Env:=c9U.z7 77 Tryz.f77
def NI77_ok:c8 d1M:=NI76_ok.z7 Tryz.call77 Tryz.func77
end Go.Proofs.YtapnoejokajcoaaGreatDoor
section
namespace Go.Proofs.YtapnoejokajcoaaGreatDoor
open Go Go.Wk Go.Wl Go.Rx Go.Re Go.Li Go.Qu Go.Fo 
def b8l{p:K8}{x:Int}(h0:0<=x)(h1:x<p.Params.length)(h:20<((ix p.Params x).p6.length:Int)):L8 p=true:=by unfold L8;have:p.Params.any (fun x=>decide (20<x.p6.length))=true:=d6P.2 ⟨_,w5 h0 h1,d5e (by omega)⟩;rw[this];simp
def b4K{p:K8}{x y:Int}(h0:0<=y)(h1:y<x)(h2:x<p.Params.length)(h:(ix p.Params y).Name=(ix p.Params x).Name):L8 p=true:=by
 unfold L8;have:¬(p.Params.map Param.Name).Nodup:=fun hn=>by have hn:List.Pairwise (· ≠ ·) (p.Params.map Param.Name):=hn;refine d5H.1 hn y.toNat x.toNat (by rw[d6h];omega) (by rw[d6h];omega) (by omega) ?_;rw[s8 (by omega),s8 (by omega)]at h;rw[d7g,d7g,h]
 rw[d5q this];simp
def b7t{p:K8}(h1:∀x:Int,0<=x->x<p.Params.length->¬20<((ix p.Params x).p6.length:Int))(h2:∀x y:Int,0<=y->y<x->x<p.Params.length->(ix p.Params y).Name≠(ix p.Params x).Name):L8 p=decide (20<(p.Params.length:Int)):=by
 unfold L8;have e1:p.Params.any (fun x=>decide (20<x.p6.length))=false:=by rw[d8J];intro x hx;obtain⟨j,hj,rfl⟩:=d5w hx;have:=h1 j (by omega) (by omega);rw[s8 (by simpa using hj)]at this;simp only[Int.toNat_natCast]at this;simp only[d6e];omega
 have e2:(p.Params.map Param.Name).Nodup:=by
  show List.Pairwise (· ≠ ·) (p.Params.map Param.Name)
  rw[d5H];intro i j hi hj hij he;rw[d6h]at hi hj;have:=h2 j i (by omega) (by omega) (by omega);rw[s8 (by omega),s8 (by omega)]at this;rw[d7g,d7g]at he;simp only[Int.toNat_natCast]at this;exact this he
 rw[e1,d5e e2];simp only[Bool.or_false,Bool.not_true];exact d5N.2 (by omega)
attribute [local irreducible] j4
def c8M:Nat->D3:=fun|74=>⟨30,fun|2=>some ⟨[1,6,7],[.slot 8 (.int .i64)]⟩|_=>none,nn⟩|123=>⟨9,nn,nn⟩|158=>⟨19,fun|2=>some ⟨[0,1,7],[.slot 8 (.int .i64)]⟩|_=>none,nn⟩|124=>⟨9,nn,nn⟩|_=>⟨0,nn,nn⟩
def V65(p:K8)(Q:Bool->Prop):Prop:=
∃(I:Int->Prop),∃(m:Int->Nat),I 0/\∀(x:Int),I x->(bR (x<(↑p.Params.length:Int)) (0<=x/\x<(↑p.Params.length:Int)/\(bR (20<(↑(ix p.Params x).p6.length:Int)) (Q true) (0<=x/\x<=(↑p.Params.length:Int)/\∃(I_1:Int->Prop),∃(m_1:Int->Nat),I_1 0/\∀(x_1:Int),I_1 x_1->(bR (x_1<(↑(List.take x.toNat p.Params).length:Int)) (0<=x_1/\x_1<(↑(List.take x.toNat p.Params).length:Int)/\(bR ((ix (List.take x.toNat p.Params) x_1).Name=(ix p.Params x).Name) ((bR (0<=x_1) (Q true) (c6 (x+1)/\I (x+1)/\m (x+1)<m x))) (c6 (x_1+1)/\I_1 (x_1+1)/\m_1 (x_1+1)<m_1 x_1))) ((bR ((0:Int)<=(-1:Int)) (Q true) (c6 (x+1)/\I (x+1)/\m (x+1)<m x))))))) (Q (decide (20<(↑p.Params.length:Int)))))
def c3v{α:Type}[Inhabited α]{l:List α}{n:Nat}{j:Int}(h0:0<=j)(h1:j<n):ix (l.take n) j=ix l j:=by unfold ix;rw[d5Z,d5Z,List.getElem?_take_of_lt (by omega)]
def p65(p:K8)(hs:p.Params.length<=1000000000):V65 p (fun y0=>y0=L8 p):=by
 unfold V65;refine⟨fun x=>0<=x/\x<=p.Params.length/\(∀j:Int,0<=j->j<x->¬20<((ix p.Params j).p6.length:Int))/\∀i j:Int,0<=j->j<i->i<x->(ix p.Params j).Name≠(ix p.Params i).Name,fun x=>((p.Params.length:Int)-x).toNat,⟨by omega,by omega,fun j _ _=>by omega,fun i j _ _ _=>by omega⟩,?_⟩;rintro x ⟨x0,x1,hx,hn⟩;refine⟨fun hi=>⟨x0,hi,fun hb=>(b8l x0 hi hb).symm,fun hb=>⟨x0,x1,fun y=>0<=y/\y<=x/\∀j:Int,0<=j->j<y->(ix p.Params j).Name≠(ix p.Params x).Name,fun y=>(x-y).toNat,⟨by omega,by omega,fun j _ _=>by omega⟩,?_⟩⟩,fun hi=>?_⟩
 . rintro y ⟨y0,y1,hy⟩;have lt:((List.take x.toNat p.Params).length:Int)=x:=by rw[d5n];omega
   rw[lt];refine⟨fun hj=>?_,fun hj=>⟨fun h=>by omega,fun _=>⟨⟨by omega,by omega⟩,⟨by omega,by omega,fun j j0 j1=>?_,fun i j j0 j1 i1=>?_⟩,by first|omega|(dsimp only;omega)⟩⟩⟩
   . rw[c3v y0 (by omega)];refine⟨y0,hj,fun he=>⟨fun _=>(b4K y0 hj hi he).symm,fun h=>absurd y0 h⟩,fun he=>⟨⟨by omega,by omega⟩,⟨by omega,by omega,fun j j0 j1=>?_⟩,by first|omega|(dsimp only;omega)⟩⟩;by_cases e:j=y
     . subst e;exact he
     . exact hy j j0 (by omega)
   . by_cases e:j=x
     . subst e;exact hb
     . exact hx j j0 (by omega)
   . by_cases e:i=x
     . subst e;exact hy j j0 (by omega)
     . exact hn i j j0 j1 (by omega)
 . exact(b7t (fun j j0 j1=>hx j j0 (by omega)) (fun i j j0 j1 i1=>hn i j j0 j1 (by omega))).symm
def d3z(p:K8):Q1 U:=⟨[List.length (α:=Param) p.Params<=1000000000],[],I4 (L8 p)⟩
def c65(a:List (SV U)):Option (Q1 U):=match a with|[.agg [.str p0,.str p1,.sl 130 p2,.str p3]]=>some (d3z (⟨p0,p1,p2,p3⟩))|_=>none
def N65:Env:=d1M.B3 74 c65
def N65_ok:c8 N65:=NI77_ok.B3 Tryz.call74 fun(args:List (SV U)) (q:Q1 U) (h:c65 args=some q) ho=>by
 unfold c65 at h;split at h
 . rename_i p0 p1 p2 p3;cases h;exact I1 (an:=c8M 74) NI77_ok (inlHN_ok NI77_ok H0_ok c8M 4) Tryz.func74 (k:=.bool) (x:=L8 (⟨p0,p1,p2,p3⟩:K8)) trivial (kc (p65 (⟨p0,p1,p2,p3⟩) ho.1) (by kernel_rfl)) 0
 . cases h
end Go.Proofs.YtapnoejokajcoaaGreatDoor
end
