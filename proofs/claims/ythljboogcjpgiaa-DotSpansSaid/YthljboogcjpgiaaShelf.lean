/- No contract of the shelf fits this translation. -/
import Derived.Test.YthljboogcjpgiaaProg
